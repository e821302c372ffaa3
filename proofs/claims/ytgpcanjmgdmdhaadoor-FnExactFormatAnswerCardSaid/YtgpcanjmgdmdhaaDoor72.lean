/-
  CONTRACTS 72: FormatAnswer, both. No condition.
-/
import Derived.Test.YtgpcanjmgdmdhaaDoor71
import Derived.Test.YtgpcanjmgdmdhaaDoorApz
namespace Go.Proofs.YtgpcanjmgdmdhaaDoor
open Go Go.Eng
set_option maxRecDepth 100000
set_option maxHeartbeats 4000000
set_option linter.unusedVariables false
set_option linter.unusedSimpArgs false
theorem l6Hex {w : World} {v : Int} (hv : 0 ≤ v ∧ v < 16) : Ret Tryd.prog 95 #[.int .u8 v] w (fun r w' => r = .int .u8 (hx v) ∧ Ch [] w w') := by
  refine enter Tryd.func95 rfl Tryd.ntmps95 (by rfl) (by rfl) ?_
  have H0 : Hold w [] w [] := Hold.start w
  refine sq (rg (r (sa rfl) (re (sq (sq (rg (r (mv rfl) (r (bi rfl rfl rfl) (re ?_)))))))))
  refine cp rfl (fun h => ?_) (fun h => ?_)
  · refine sq (rg (r (mv rfl) (r (adw (48 + v) rfl rfl (by rw [u8_in] <;> omega)) (r (sa rfl) (re (rt ?_))))))
    exact fin1 (v := .int .u8 (48 + v)) Tryd.results95 rfl ⟨by rw [hx, if_pos (by omega)], Hold.ch H0⟩
  · refine sk (sq (rg (r (mv rfl) (r (adw (65 + v) rfl rfl (by rw [u8_in] <;> omega)) (r (sbw (55 + v) rfl rfl (by rw [u8_in] <;> omega)) (r (sa rfl) (re (rt ?_))))))))
    exact fin1 (v := .int .u8 (55 + v)) Tryd.results95 rfl ⟨by rw [hx, if_neg (by omega)], Hold.ch H0⟩
theorem spec_escape {w : World} {s : ByteArray} (hs : s.size ≤ 1000000000 / 4) : Ret Tryd.prog 66 #[.string s] w (fun r w' => r = .string (mkS (esc (nums8 s))) ∧ Ch [] w w') := by
  refine enter Tryd.func66 rfl Tryd.ntmps66 (by rfl) (by rfl) ?_
  have H0 : Hold w [] w [] := Hold.start w
  have hl := nums8_len s
  have ok := nums8_ok s
  refine sq (rg (r (sa rfl) (re (sq (rg (ef (xbs0 (dk := u8) Tryd.underlying22 ti5) ?_))))))
  rintro v1 w1 N1
  have H1 : Hold w [] w1 [rR u8 5 v1 ([])] := Hold.newr H0 N1
  clear H0
  refine r (sa rfl) (re (sq (sq (rg (r (sa rfl) (re (bl ?_)))))))
  refine lp (α := Nat × Value) (fun (i, v) ρ w' => ρ 0 = .string s ∧ ρ 3 = v ∧ ρ 4 = .int .i64 (i : Int) ∧ Hold w [] w' [rR u8 5 v (esc ((nums8 s).take i))] ∧ i ≤ s.size) (fun (i, v) => s.size - i) (0, v1) ?_ ?_
  · exact ⟨rfl, rfl, rfl, H1, by omega⟩
  clear H1
  rintro ⟨i, v⟩ ρ w502 ⟨y0, y3, y4, H2, hi⟩
  refine sq (sq (rg (r (mv y4) (r (mv y0) (r (lns Tryd.underlying9 rfl) (r (bi rfl rfl rfl) (re ?_)))))))
  refine cp rfl (fun h => ?_) (fun h => ?_)
  · have hi' : i < (nums8 s).length := by omega
    have hb := ok _ (List.getElem_mem hi')
    have hle := esc_len ((nums8 s).take i)
    rw [List.length_take] at hle
    have et := esc_take hi'
    obtain ⟨m, hm⟩ : ∃ m : Nat, (nums8 s)[i] = (m : Int) := ⟨(nums8 s)[i].toNat, by omega⟩
    rw [hm] at hb et
    refine sk (sq (bl (sq (rg (r (mv y0) (r (mv y4) (r (Rn.cast (v' := .int .u8 (m : Int)) (six (j := i) Tryd.underlying9 rfl rfl (by omega)) (congrArg (Value.int .u8) hm)) (r (bi rfl rfl rfl) (r (mv rfl) ?_)))))))))
    refine sp 16 rfl (fun h1 => ?_) (fun h1 => ?_)
    · refine gy rfl rfl rfl (r (mv y0) (gy rfl rfl rfl (r (mv y4) (gy rfl rfl rfl (r (Rn.cast (v' := .int .u8 (m : Int)) (six (j := i) Tryd.underlying9 rfl rfl (by omega)) (congrArg (Value.int .u8) hm)) (gy rfl rfl rfl (r (bi rfl rfl rfl) (r (pk rfl rfl) (r (mv rfl) ?_)))))))))
      refine sp 22 rfl (fun h2 => ?_) (fun h2 => ?_)
      · refine gy rfl rfl rfl (r (mv y0) (gy rfl rfl rfl (r (mv y4) (gy rfl rfl rfl (r (Rn.cast (v' := .int .u8 (m : Int)) (six (j := i) Tryd.underlying9 rfl rfl (by omega)) (congrArg (Value.int .u8) hm)) (gy rfl rfl rfl (r (bi rfl rfl rfl) (r (pk rfl rfl) (re ?_)))))))))
        refine cpn rfl (fun h3 => ?_) (fun h3 => ?_)
        · have ee := et.trans (congrArg (esc ((nums8 s).take i) ++ ·) (escB_plain (by omega)))
          refine gen (fun ρ => ρ 0 = .string s ∧ ρ 3 = v ∧ ρ 4 = .int .i64 (i : Int) ∧ True) ⟨y0, y3, y4, trivial⟩ ?_
          rintro ρ ⟨z0, z3, z4, -⟩
          refine rg (r (mv z3) (r (mv z0) (r (mv z4) (r (Rn.cast (v' := .int .u8 (m : Int)) (six (j := i) Tryd.underlying9 rfl rfl (by omega)) (congrArg (Value.int .u8) hm)) (ef (xbs1 (cs := [.int .u8 (m : Int)]) Tryd.underlying22 ti5 rfl rfl rfl (cel1 rfl) rfl) ?_)))))
          rintro _ w2 ⟨g32, e2, rfl, -, b2, c2⟩
          have H3 : Hold w [] w2 [rR u8 5 v (esc ((nums8 s).take i)), rB g32 5 ([.int .u8 (m : Int)])] := Hold.newB H2 e2 b2 c2
          clear H2
          clear e2 b2 c2
          have b4 : B w2 g32 5 ([.int .u8 (m : Int)]) := Hold.blk H3 1 rfl
          obtain ⟨F5, P5, n5, s5, K5⟩ := Hold.pick H3 0 rfl
          replace P5 : Kd.W u8 5 w2 F5 v (esc ((nums8 s).take i)) := P5
          refine ef (xapb (ys := [(m : Int)]) Tryd.underlying22 ti5 rfl rfl rfl P5 b4 (els_one (R := Kd.O u8 _) (show Kd.O u8 _ [] (m : Int) _ from ⟨rfl, rfl⟩)) (nodup_nil n5) (by simp only [List.length_singleton]; omega)) ?_
          rintro v33_3 w3 ⟨F3, A3⟩
          have H4 : Hold w [] w3 [rR u8 5 v33_3 ((esc ((nums8 s).take i)) ++ [(m : Int)]), rB g32 5 ([.int .u8 (m : Int)])] := Hold.apd K5 P5 A3 rfl
          clear H3
          clear A3 K5 P5 n5 s5
          refine r (sa rfl) (re (be (rg (r (mv z4) (r (ad (a := (i : Int)) (b := 1) ((i : Int) + 1) rfl rfl (by omega)) (r (sa rfl) (re ?_)))))))
          have H5 : Hold w [] w3 [rR u8 5 v33_3 ((esc ((nums8 s).take i)) ++ [(m : Int)])] := (show Hold w [] w3 ([rR u8 5 v33_3 ((esc ((nums8 s).take i)) ++ [(m : Int)])] ++ [rB g32 5 ([.int .u8 (m : Int)])]) from Hold.re H4 [0, 1] (by kernel_rfl) (by rfl)).drop
          clear H4
          exact ag (i + 1, v33_3) ⟨z0, rfl, rfl, (by rw [ee]; exact H5), by omega⟩ (by first | omega | (dsimp only; omega))
        · have ee := et.trans (congrArg (esc ((nums8 s).take i) ++ ·) (escB_hex (by omega)))
          refine gen (fun ρ => ρ 0 = .string s ∧ ρ 3 = v ∧ ρ 4 = .int .i64 (i : Int) ∧ True) ⟨y0, y3, y4, trivial⟩ ?_
          rintro ρ ⟨z0, z3, z4, -⟩
          refine rde mixed ?_
          intro w2 c2
          have H3 : Hold w [] w2 [rR u8 5 v (esc ((nums8 s).take i))] := Hold.t H2 c2
          clear H2
          clear c2
          obtain ⟨Fd3, hFd3, nd3, Kd3, Xd3, sd3⟩ := Hold.frontx (Γ := [rR u8 5 v (esc ((nums8 s).take i))]) (Δ := []) H3
          have H3d0 : Hold w2 Fd3 w2 [rR u8 5 v (esc ((nums8 s).take i))] := Hold.begin hFd3 nd3
          refine ⟨fun w' => Ch Fd3 w2 w', Ch.refl _ _, ?_⟩
          refine edt 0 rfl (by kernel_rfl) (fun w' hS => mv z3) (edt 1 rfl (by kernel_rfl) (fun w' hS => mv z0) (edt 2 rfl (by kernel_rfl) (fun w' hS => mv z4) (edt 3 rfl (by kernel_rfl) (fun w' hS => Rn.cast (v' := .int .u8 (m : Int)) (six (j := i) Tryd.underlying9 rfl rfl (by omega)) (congrArg (Value.int .u8) hm)) (edt 4 rfl (by kernel_rfl) (fun w' hS => dvw ((m / 16 : Nat) : Int) rfl rfl ⟨by omega, by rw [Int.tdiv_eq_ediv_of_nonneg (by omega), u8_in (by omega)]; omega⟩) (edt 6 rfl (by kernel_rfl) (fun w' hS => mv z0) (edt 7 rfl (by kernel_rfl) (fun w' hS => mv z4) (edt 8 rfl (by kernel_rfl) (fun w' hS => Rn.cast (v' := .int .u8 (m : Int)) (six (j := i) Tryd.underlying9 rfl rfl (by omega)) (congrArg (Value.int .u8) hm)) (edt 9 rfl (by kernel_rfl) (fun w' hS => rmw ((m % 16 : Nat) : Int) rfl rfl ⟨by omega, by rw [Int.tmod_eq_emod_of_nonneg (by omega)]; omega⟩) (ed1 5 (by kernel_rfl) <| euc rfl go95 (ac rfl an) (l6Hex (v := ((m / 16 : Nat) : Int)) (by omega)) ?_)))))))))
          rintro r wa ⟨rfl, ca⟩
          have H4d : Hold w2 Fd3 wa [rR u8 5 v (esc ((nums8 s).take i))] := Hold.t H3d0 ca
          clear H3d0
          clear ca
          refine ⟨.inr (Hold.ch H4d), ?_⟩
          refine ed1 10 (by kernel_rfl) <| euc rfl go95 (ac rfl an) (l6Hex (v := ((m % 16 : Nat) : Int)) (by omega)) ?_
          rintro r wa2 ⟨rfl, ca2⟩
          have H5d : Hold w2 Fd3 wa2 [rR u8 5 v (esc ((nums8 s).take i))] := Hold.t H4d ca2
          clear H4d
          clear ca2
          refine ⟨.inr (Hold.ch H5d), ?_⟩
          refine ed1 11 (by kernel_rfl) <| euf rfl (bsm (cs := [.int .u8 37, .int .u8 (hx ((m / 16 : Nat) : Int)), .int .u8 (hx ((m % 16 : Nat) : Int))]) Tryd.underlying22 ti5 rfl (by rfl) (pc rfl (cel1 rfl) (pc rfl (cel1 rfl) (pc rfl (cel1 rfl) pn))) rfl) ?_
          rintro _ w6 ⟨g45, e6, rfl, -, b6, c6⟩
          have H6d : Hold w2 Fd3 w6 [rR u8 5 v (esc ((nums8 s).take i)), rB g45 5 ([.int .u8 37, .int .u8 (hx ((m / 16 : Nat) : Int)), .int .u8 (hx ((m % 16 : Nat) : Int))])] := Hold.newB H5d e6 b6 c6
          clear H5d
          clear e6 b6 c6
          refine ⟨.inr (Hold.ch H6d), ?_⟩
          have b8 : B w6 g45 5 ([.int .u8 37, .int .u8 (hx ((m / 16 : Nat) : Int)), .int .u8 (hx ((m % 16 : Nat) : Int))]) := Hold.blk H6d 1 rfl
          obtain ⟨F9, P9, n9, s9, K9⟩ := Hold.pick H6d 0 rfl
          replace P9 : Kd.W u8 5 w6 F9 v (esc ((nums8 s).take i)) := P9
          refine ed1 12 (by kernel_rfl) <| euf rfl (aps Tryd.underlying22 ti5 rfl (flat_int _) rfl rfl P9 ((row_of_B (dk := u8) (xs := [37, hx ((m / 16 : Nat) : Int), hx ((m % 16 : Nat) : Int)]) b8 (els_int [37, hx ((m / 16 : Nat) : Int), hx ((m % 16 : Nat) : Int)]) (Nat.le_of_ble_eq_true rfl)).R) n9 (by simp only [List.length_cons, List.length_nil]; omega)) ?_
          rintro v46_7 w7 ⟨F7, A7⟩
          have H7d : Hold w2 Fd3 w7 [rR u8 5 v46_7 ((esc ((nums8 s).take i)) ++ ([37, hx ((m / 16 : Nat) : Int), hx ((m % 16 : Nat) : Int)])), rB g45 5 ([.int .u8 37, .int .u8 (hx ((m / 16 : Nat) : Int)), .int .u8 (hx ((m % 16 : Nat) : Int))])] := Hold.apd K9 P9 A7 rfl
          clear H6d
          clear A7 K9 P9 n9 s9
          refine ⟨.inr (Hold.ch H7d), ?_⟩
          have H8 : Hold w [] w7 [rR u8 5 v46_7 ((esc ((nums8 s).take i)) ++ ([37, hx ((m / 16 : Nat) : Int), hx ((m % 16 : Nat) : Int)])), rB g45 5 ([.int .u8 37, .int .u8 (hx ((m / 16 : Nat) : Int)), .int .u8 (hx ((m % 16 : Nat) : Int))])] := Hold.call Kd3 H7d
          clear H7d H3
          refine ed1 13 (by kernel_rfl) <| eur rfl (sa rfl) (.inl (by kernel_rfl)) ?_
          refine edd (by kernel_rfl) ?_
          refine be ?_
          refine gen (fun ρ => ρ 0 = .string s ∧ ρ 3 = v46_7 ∧ ρ 4 = .int .i64 (i : Int) ∧ True) ⟨z0, rfl, z4, trivial⟩ ?_
          rintro ρ ⟨z0, z3, z4, -⟩
          refine rg (r (mv z4) (r (ad (a := (i : Int)) (b := 1) ((i : Int) + 1) rfl rfl (by omega)) (r (sa rfl) (re ?_))))
          have H9 : Hold w [] w7 [rR u8 5 v46_7 ((esc ((nums8 s).take i)) ++ ([37, hx ((m / 16 : Nat) : Int), hx ((m % 16 : Nat) : Int)]))] := (show Hold w [] w7 ([rR u8 5 v46_7 ((esc ((nums8 s).take i)) ++ ([37, hx ((m / 16 : Nat) : Int), hx ((m % 16 : Nat) : Int)]))] ++ [rB g45 5 ([.int .u8 37, .int .u8 (hx ((m / 16 : Nat) : Int)), .int .u8 (hx ((m % 16 : Nat) : Int))])]) from Hold.re H8 [0, 1] (by kernel_rfl) (by rfl)).drop
          clear H8
          exact ag (i + 1, v46_7) ⟨z0, z3, rfl, (by rw [ee]; exact H9), by omega⟩ (by first | omega | (dsimp only; omega))
      · have ee := et.trans (congrArg (esc ((nums8 s).take i) ++ ·) (escB_hex (by omega)))
        refine gn rfl rfl rfl (gn rfl rfl rfl (gn rfl rfl rfl (gn rfl rfl rfl (r (pk rfl rfl) (re (cf rfl ?_))))))
        refine gen (fun ρ => ρ 0 = .string s ∧ ρ 3 = v ∧ ρ 4 = .int .i64 (i : Int) ∧ True) ⟨y0, y3, y4, trivial⟩ ?_
        rintro ρ ⟨z0, z3, z4, -⟩
        refine rde mixed ?_
        intro w2 c2
        have H3 : Hold w [] w2 [rR u8 5 v (esc ((nums8 s).take i))] := Hold.t H2 c2
        clear H2
        clear c2
        obtain ⟨Fd3, hFd3, nd3, Kd3, Xd3, sd3⟩ := Hold.frontx (Γ := [rR u8 5 v (esc ((nums8 s).take i))]) (Δ := []) H3
        have H3d0 : Hold w2 Fd3 w2 [rR u8 5 v (esc ((nums8 s).take i))] := Hold.begin hFd3 nd3
        refine ⟨fun w' => Ch Fd3 w2 w', Ch.refl _ _, ?_⟩
        refine edt 0 rfl (by kernel_rfl) (fun w' hS => mv z3) (edt 1 rfl (by kernel_rfl) (fun w' hS => mv z0) (edt 2 rfl (by kernel_rfl) (fun w' hS => mv z4) (edt 3 rfl (by kernel_rfl) (fun w' hS => Rn.cast (v' := .int .u8 (m : Int)) (six (j := i) Tryd.underlying9 rfl rfl (by omega)) (congrArg (Value.int .u8) hm)) (edt 4 rfl (by kernel_rfl) (fun w' hS => dvw ((m / 16 : Nat) : Int) rfl rfl ⟨by omega, by rw [Int.tdiv_eq_ediv_of_nonneg (by omega), u8_in (by omega)]; omega⟩) (edt 6 rfl (by kernel_rfl) (fun w' hS => mv z0) (edt 7 rfl (by kernel_rfl) (fun w' hS => mv z4) (edt 8 rfl (by kernel_rfl) (fun w' hS => Rn.cast (v' := .int .u8 (m : Int)) (six (j := i) Tryd.underlying9 rfl rfl (by omega)) (congrArg (Value.int .u8) hm)) (edt 9 rfl (by kernel_rfl) (fun w' hS => rmw ((m % 16 : Nat) : Int) rfl rfl ⟨by omega, by rw [Int.tmod_eq_emod_of_nonneg (by omega)]; omega⟩) (ed1 5 (by kernel_rfl) <| euc rfl go95 (ac rfl an) (l6Hex (v := ((m / 16 : Nat) : Int)) (by omega)) ?_)))))))))
        rintro r wa ⟨rfl, ca⟩
        have H4d : Hold w2 Fd3 wa [rR u8 5 v (esc ((nums8 s).take i))] := Hold.t H3d0 ca
        clear H3d0
        clear ca
        refine ⟨.inr (Hold.ch H4d), ?_⟩
        refine ed1 10 (by kernel_rfl) <| euc rfl go95 (ac rfl an) (l6Hex (v := ((m % 16 : Nat) : Int)) (by omega)) ?_
        rintro r wa2 ⟨rfl, ca2⟩
        have H5d : Hold w2 Fd3 wa2 [rR u8 5 v (esc ((nums8 s).take i))] := Hold.t H4d ca2
        clear H4d
        clear ca2
        refine ⟨.inr (Hold.ch H5d), ?_⟩
        refine ed1 11 (by kernel_rfl) <| euf rfl (bsm (cs := [.int .u8 37, .int .u8 (hx ((m / 16 : Nat) : Int)), .int .u8 (hx ((m % 16 : Nat) : Int))]) Tryd.underlying22 ti5 rfl (by rfl) (pc rfl (cel1 rfl) (pc rfl (cel1 rfl) (pc rfl (cel1 rfl) pn))) rfl) ?_
        rintro _ w6 ⟨g45, e6, rfl, -, b6, c6⟩
        have H6d : Hold w2 Fd3 w6 [rR u8 5 v (esc ((nums8 s).take i)), rB g45 5 ([.int .u8 37, .int .u8 (hx ((m / 16 : Nat) : Int)), .int .u8 (hx ((m % 16 : Nat) : Int))])] := Hold.newB H5d e6 b6 c6
        clear H5d
        clear e6 b6 c6
        refine ⟨.inr (Hold.ch H6d), ?_⟩
        have b8 : B w6 g45 5 ([.int .u8 37, .int .u8 (hx ((m / 16 : Nat) : Int)), .int .u8 (hx ((m % 16 : Nat) : Int))]) := Hold.blk H6d 1 rfl
        obtain ⟨F9, P9, n9, s9, K9⟩ := Hold.pick H6d 0 rfl
        replace P9 : Kd.W u8 5 w6 F9 v (esc ((nums8 s).take i)) := P9
        refine ed1 12 (by kernel_rfl) <| euf rfl (aps Tryd.underlying22 ti5 rfl (flat_int _) rfl rfl P9 ((row_of_B (dk := u8) (xs := [37, hx ((m / 16 : Nat) : Int), hx ((m % 16 : Nat) : Int)]) b8 (els_int [37, hx ((m / 16 : Nat) : Int), hx ((m % 16 : Nat) : Int)]) (Nat.le_of_ble_eq_true rfl)).R) n9 (by simp only [List.length_cons, List.length_nil]; omega)) ?_
        rintro v46_7 w7 ⟨F7, A7⟩
        have H7d : Hold w2 Fd3 w7 [rR u8 5 v46_7 ((esc ((nums8 s).take i)) ++ ([37, hx ((m / 16 : Nat) : Int), hx ((m % 16 : Nat) : Int)])), rB g45 5 ([.int .u8 37, .int .u8 (hx ((m / 16 : Nat) : Int)), .int .u8 (hx ((m % 16 : Nat) : Int))])] := Hold.apd K9 P9 A7 rfl
        clear H6d
        clear A7 K9 P9 n9 s9
        refine ⟨.inr (Hold.ch H7d), ?_⟩
        have H8 : Hold w [] w7 [rR u8 5 v46_7 ((esc ((nums8 s).take i)) ++ ([37, hx ((m / 16 : Nat) : Int), hx ((m % 16 : Nat) : Int)])), rB g45 5 ([.int .u8 37, .int .u8 (hx ((m / 16 : Nat) : Int)), .int .u8 (hx ((m % 16 : Nat) : Int))])] := Hold.call Kd3 H7d
        clear H7d H3
        refine ed1 13 (by kernel_rfl) <| eur rfl (sa rfl) (.inl (by kernel_rfl)) ?_
        refine edd (by kernel_rfl) ?_
        refine be ?_
        refine gen (fun ρ => ρ 0 = .string s ∧ ρ 3 = v46_7 ∧ ρ 4 = .int .i64 (i : Int) ∧ True) ⟨z0, rfl, z4, trivial⟩ ?_
        rintro ρ ⟨z0, z3, z4, -⟩
        refine rg (r (mv z4) (r (ad (a := (i : Int)) (b := 1) ((i : Int) + 1) rfl rfl (by omega)) (r (sa rfl) (re ?_))))
        have H9 : Hold w [] w7 [rR u8 5 v46_7 ((esc ((nums8 s).take i)) ++ ([37, hx ((m / 16 : Nat) : Int), hx ((m % 16 : Nat) : Int)]))] := (show Hold w [] w7 ([rR u8 5 v46_7 ((esc ((nums8 s).take i)) ++ ([37, hx ((m / 16 : Nat) : Int), hx ((m % 16 : Nat) : Int)]))] ++ [rB g45 5 ([.int .u8 37, .int .u8 (hx ((m / 16 : Nat) : Int)), .int .u8 (hx ((m % 16 : Nat) : Int))])]) from Hold.re H8 [0, 1] (by kernel_rfl) (by rfl)).drop
        clear H8
        exact ag (i + 1, v46_7) ⟨z0, z3, rfl, (by rw [ee]; exact H9), by omega⟩ (by first | omega | (dsimp only; omega))
    · have ee := et.trans (congrArg (esc ((nums8 s).take i) ++ ·) (escB_hex (by omega)))
      refine gn rfl rfl rfl (gn rfl rfl rfl (gn rfl rfl rfl (gn rfl rfl rfl (r (pk rfl rfl) (r (mv rfl) (gn rfl rfl rfl (gn rfl rfl rfl (gn rfl rfl rfl (gn rfl rfl rfl (r (pk rfl rfl) (re (cf rfl ?_))))))))))))
      refine gen (fun ρ => ρ 0 = .string s ∧ ρ 3 = v ∧ ρ 4 = .int .i64 (i : Int) ∧ True) ⟨y0, y3, y4, trivial⟩ ?_
      rintro ρ ⟨z0, z3, z4, -⟩
      refine rde mixed ?_
      intro w2 c2
      have H3 : Hold w [] w2 [rR u8 5 v (esc ((nums8 s).take i))] := Hold.t H2 c2
      clear H2
      clear c2
      obtain ⟨Fd3, hFd3, nd3, Kd3, Xd3, sd3⟩ := Hold.frontx (Γ := [rR u8 5 v (esc ((nums8 s).take i))]) (Δ := []) H3
      have H3d0 : Hold w2 Fd3 w2 [rR u8 5 v (esc ((nums8 s).take i))] := Hold.begin hFd3 nd3
      refine ⟨fun w' => Ch Fd3 w2 w', Ch.refl _ _, ?_⟩
      refine edt 0 rfl (by kernel_rfl) (fun w' hS => mv z3) (edt 1 rfl (by kernel_rfl) (fun w' hS => mv z0) (edt 2 rfl (by kernel_rfl) (fun w' hS => mv z4) (edt 3 rfl (by kernel_rfl) (fun w' hS => Rn.cast (v' := .int .u8 (m : Int)) (six (j := i) Tryd.underlying9 rfl rfl (by omega)) (congrArg (Value.int .u8) hm)) (edt 4 rfl (by kernel_rfl) (fun w' hS => dvw ((m / 16 : Nat) : Int) rfl rfl ⟨by omega, by rw [Int.tdiv_eq_ediv_of_nonneg (by omega), u8_in (by omega)]; omega⟩) (edt 6 rfl (by kernel_rfl) (fun w' hS => mv z0) (edt 7 rfl (by kernel_rfl) (fun w' hS => mv z4) (edt 8 rfl (by kernel_rfl) (fun w' hS => Rn.cast (v' := .int .u8 (m : Int)) (six (j := i) Tryd.underlying9 rfl rfl (by omega)) (congrArg (Value.int .u8) hm)) (edt 9 rfl (by kernel_rfl) (fun w' hS => rmw ((m % 16 : Nat) : Int) rfl rfl ⟨by omega, by rw [Int.tmod_eq_emod_of_nonneg (by omega)]; omega⟩) (ed1 5 (by kernel_rfl) <| euc rfl go95 (ac rfl an) (l6Hex (v := ((m / 16 : Nat) : Int)) (by omega)) ?_)))))))))
      rintro r wa ⟨rfl, ca⟩
      have H4d : Hold w2 Fd3 wa [rR u8 5 v (esc ((nums8 s).take i))] := Hold.t H3d0 ca
      clear H3d0
      clear ca
      refine ⟨.inr (Hold.ch H4d), ?_⟩
      refine ed1 10 (by kernel_rfl) <| euc rfl go95 (ac rfl an) (l6Hex (v := ((m % 16 : Nat) : Int)) (by omega)) ?_
      rintro r wa2 ⟨rfl, ca2⟩
      have H5d : Hold w2 Fd3 wa2 [rR u8 5 v (esc ((nums8 s).take i))] := Hold.t H4d ca2
      clear H4d
      clear ca2
      refine ⟨.inr (Hold.ch H5d), ?_⟩
      refine ed1 11 (by kernel_rfl) <| euf rfl (bsm (cs := [.int .u8 37, .int .u8 (hx ((m / 16 : Nat) : Int)), .int .u8 (hx ((m % 16 : Nat) : Int))]) Tryd.underlying22 ti5 rfl (by rfl) (pc rfl (cel1 rfl) (pc rfl (cel1 rfl) (pc rfl (cel1 rfl) pn))) rfl) ?_
      rintro _ w6 ⟨g45, e6, rfl, -, b6, c6⟩
      have H6d : Hold w2 Fd3 w6 [rR u8 5 v (esc ((nums8 s).take i)), rB g45 5 ([.int .u8 37, .int .u8 (hx ((m / 16 : Nat) : Int)), .int .u8 (hx ((m % 16 : Nat) : Int))])] := Hold.newB H5d e6 b6 c6
      clear H5d
      clear e6 b6 c6
      refine ⟨.inr (Hold.ch H6d), ?_⟩
      have b8 : B w6 g45 5 ([.int .u8 37, .int .u8 (hx ((m / 16 : Nat) : Int)), .int .u8 (hx ((m % 16 : Nat) : Int))]) := Hold.blk H6d 1 rfl
      obtain ⟨F9, P9, n9, s9, K9⟩ := Hold.pick H6d 0 rfl
      replace P9 : Kd.W u8 5 w6 F9 v (esc ((nums8 s).take i)) := P9
      refine ed1 12 (by kernel_rfl) <| euf rfl (aps Tryd.underlying22 ti5 rfl (flat_int _) rfl rfl P9 ((row_of_B (dk := u8) (xs := [37, hx ((m / 16 : Nat) : Int), hx ((m % 16 : Nat) : Int)]) b8 (els_int [37, hx ((m / 16 : Nat) : Int), hx ((m % 16 : Nat) : Int)]) (Nat.le_of_ble_eq_true rfl)).R) n9 (by simp only [List.length_cons, List.length_nil]; omega)) ?_
      rintro v46_7 w7 ⟨F7, A7⟩
      have H7d : Hold w2 Fd3 w7 [rR u8 5 v46_7 ((esc ((nums8 s).take i)) ++ ([37, hx ((m / 16 : Nat) : Int), hx ((m % 16 : Nat) : Int)])), rB g45 5 ([.int .u8 37, .int .u8 (hx ((m / 16 : Nat) : Int)), .int .u8 (hx ((m % 16 : Nat) : Int))])] := Hold.apd K9 P9 A7 rfl
      clear H6d
      clear A7 K9 P9 n9 s9
      refine ⟨.inr (Hold.ch H7d), ?_⟩
      have H8 : Hold w [] w7 [rR u8 5 v46_7 ((esc ((nums8 s).take i)) ++ ([37, hx ((m / 16 : Nat) : Int), hx ((m % 16 : Nat) : Int)])), rB g45 5 ([.int .u8 37, .int .u8 (hx ((m / 16 : Nat) : Int)), .int .u8 (hx ((m % 16 : Nat) : Int))])] := Hold.call Kd3 H7d
      clear H7d H3
      refine ed1 13 (by kernel_rfl) <| eur rfl (sa rfl) (.inl (by kernel_rfl)) ?_
      refine edd (by kernel_rfl) ?_
      refine be ?_
      refine gen (fun ρ => ρ 0 = .string s ∧ ρ 3 = v46_7 ∧ ρ 4 = .int .i64 (i : Int) ∧ True) ⟨z0, rfl, z4, trivial⟩ ?_
      rintro ρ ⟨z0, z3, z4, -⟩
      refine rg (r (mv z4) (r (ad (a := (i : Int)) (b := 1) ((i : Int) + 1) rfl rfl (by omega)) (r (sa rfl) (re ?_))))
      have H9 : Hold w [] w7 [rR u8 5 v46_7 ((esc ((nums8 s).take i)) ++ ([37, hx ((m / 16 : Nat) : Int), hx ((m % 16 : Nat) : Int)]))] := (show Hold w [] w7 ([rR u8 5 v46_7 ((esc ((nums8 s).take i)) ++ ([37, hx ((m / 16 : Nat) : Int), hx ((m % 16 : Nat) : Int)]))] ++ [rB g45 5 ([.int .u8 37, .int .u8 (hx ((m / 16 : Nat) : Int)), .int .u8 (hx ((m % 16 : Nat) : Int))])]) from Hold.re H8 [0, 1] (by kernel_rfl) (by rfl)).drop
      clear H8
      exact ag (i + 1, v46_7) ⟨z0, z3, rfl, (by rw [ee]; exact H9), by omega⟩ (by first | omega | (dsimp only; omega))
  · have ei : i = (nums8 s).length := by omega
    rw [ei, List.take_length] at H2
    obtain ⟨_, R2⟩ : ∃ F, Kd.R u8 w502 F v (esc (nums8 s)) := Hold.row H2 0 rfl
    refine ex rfl (sq (rg (r (mv y3) (r (cvbs Tryd.underlying22 Tryd.underlying5 Tryd.underlying9 R2 rfl) (r (sa rfl) (re (rt ?_)))))))
    exact fin1 (v := .string (mkS (esc (nums8 s)))) Tryd.results66 rfl ⟨rfl, Hold.ch H2⟩
/-- Names behind a text, a blank ahead of each. -/
def namesB (s : ByteArray) (ns : List ByteArray) : List Int := nums8 s ++ ns.flatMap (fun n => 32 :: nums8 n)
def namesL (ns : List ByteArray) : Nat := (ns.map (fun n => n.size + 1)).sum
theorem namesB_len (s : ByteArray) (ns : List ByteArray) : (namesB s ns).length = s.size + namesL ns := by
  unfold namesB namesL
  rw [List.length_append, nums8_len]
  congr 1
  induction ns with
  | nil => rfl
  | cons n ns ih => simp only [List.flatMap_cons, List.length_append, List.length_cons, nums8_len, List.map_cons, List.sum_cons, ih]
theorem namesB_ok (s : ByteArray) (ns : List ByteArray) : ok8 (namesB s ns) := by
  intro x hx
  rcases List.mem_append.1 hx with h | h
  · exact nums8_ok s x h
  · obtain ⟨n, -, h⟩ := List.mem_flatMap.1 h
    rcases List.mem_cons.1 h with rfl | h
    · omega
    · exact nums8_ok n x h
theorem namesB_take {s : ByteArray} {ns : List ByteArray} {i : Nat} (h : i < ns.length) : namesB s (ns.take (i + 1)) = namesB s (ns.take i) ++ [32] ++ nums8 ns[i] := by
  unfold namesB
  rw [List.take_succ_eq_append_getElem h, List.flatMap_append]; simp
theorem namesL_take (ns : List ByteArray) (i : Nat) : namesL (ns.take i) ≤ namesL ns := by
  induction ns generalizing i with
  | nil => simp
  | cons n ns ih => cases i with
    | zero => simp [namesL]
    | succ i => have := ih i; simp only [namesL, List.take_succ_cons, List.map_cons, List.sum_cons] at this ⊢; omega
theorem u8_nums8 (s : ByteArray) : (nums8 s).map (fun n => UInt8.ofNat n.toNat) = s.data.toList := by
  simp only [nums8, List.map_map]
  conv => rhs; rw [← List.map_id s.data.toList]
  apply List.map_congr_left
  intro x _
  simp
theorem join_names (s : ByteArray) (ns : List ByteArray) : (⟨(Go.Lib.join ((s :: ns).map (·.data.toList)) (⟨#[32]⟩ : ByteArray).data.toList).toArray⟩ : ByteArray) = mkS (namesB s ns) := by
  apply ba_ext
  rw [mkS_data, namesB, List.map_append, u8_nums8, List.map_cons, Go.Lib.join_cons]
  simp only [List.toList_toArray]
  congr 1
  induction ns with
  | nil => rfl
  | cons n ns ih =>
    simp only [List.flatMap_cons, List.map_cons, Go.Lib.joinTail, List.flatten_cons, List.map_append, u8_nums8] at ih ⊢
    rw [← ih]; rfl
theorem Join {w : World} {F : List Nat} {v : Value} {x : ByteArray} {xs : List ByteArray} (h : kStr.W 9 w F v (x :: xs)) (hl : x.size + namesL xs ≤ 100000000) (hn : xs.length ≤ 100000000) :
    Ret Tryd.prog 71 #[v, .string (⟨#[32]⟩ : ByteArray)] w (fun r w' => r = .string (mkS (namesB x xs)) ∧ Ch [] w w') := by
  obtain ⟨Fs, cs, ho, rfl, hE⟩ := h
  have hcs : cs = (x :: xs).map Value.string := by
    have : ∀ (xs : List ByteArray) {F cs}, Els (kStr.O w) F xs cs → cs = xs.map Value.string := by
      intro xs
      induction xs with
      | nil => rintro F cs ⟨_, h⟩; exact h
      | cons y ys ih => rintro F cs ⟨F1, F2, c1, c2, rfl, rfl, h1, h2⟩; rw [h1.1, ih h2]; rfl
    exact this _ hE
  obtain ⟨h1, h2⟩ := ho
  rcases h2 with ⟨_, h2⟩ | ⟨g, cap, cur, rfl, hg, hh, hnc, hcm, hcz, htake⟩
  · simp at h2
  have hB : B w g 9 cur.toList := by simpa [B] using hh
  have hlen : (Lib.join ((x :: xs).map (·.data.toList)) (⟨#[32]⟩ : ByteArray).data.toList).length = x.size + namesL xs := by
    have e := congrArg (fun b : ByteArray => b.data.toList.length) (join_names x xs)
    simp only [mkS_data, List.length_map, namesB_len, List.toList_toArray] at e
    exact e
  refine Ret.of (Tryd.strings_Join g 0 cap (x :: xs) (⟨#[32]⟩ : ByteArray) w (fun j y hj => ?_) hB.lt (by simp; omega) hnc (by rw [hlen]; omega)) fun e w' ⟨he, hw⟩ => ⟨_, he, ?_, ch_below hw⟩
  · rw [Nat.zero_add, hB.cell]
    have hjl := (List.getElem?_eq_some_iff.1 hj).1
    have e1 : (cur.toList.take ((x :: xs).length * kStr.sz))[j]? = some (.string y) := by rw [htake, hcs, List.getElem?_map, hj]; rfl
    rw [List.getElem?_take_of_lt (by show j < (x :: xs).length * 1; omega)] at e1
    exact e1
  · rw [join_names]
/-- The answer's text. -/
def fmtA (code k : Int) (data : ByteArray) (ns : List ByteArray) (nu a1 a2 a3 a4 a5 : Int) : ByteArray :=
  if code ≠ 0 then say ⟨#[101, 114, 114, 111, 114]⟩ [code]
  else if k = 1 ∨ k = 3 ∨ k = 4 ∨ k = 6 then ⟨#[111, 107]⟩
  else if k = 2 then (if data.size = 0 then say ⟨#[100, 97, 116, 97]⟩ [(data.size : Int)] else say ⟨#[100, 97, 116, 97]⟩ [(data.size : Int)] ++ ((⟨#[32]⟩ : ByteArray) ++ mkS (esc (nums8 data))))
  else if k = 5 then mkS (namesB (say ⟨#[110, 97, 109, 101, 115]⟩ [(ns.length : Int)]) ns)
  else if k = 7 then say ⟨#[109, 111, 118, 101, 100]⟩ [nu]
  else if k = 8 then say ⟨#[115, 116, 97, 116]⟩ [a1, a2, a3, a4, a5]
  else ⟨#[]⟩
theorem ba_nil {s : ByteArray} (h : s.size = 0) : s = (⟨#[]⟩ : ByteArray) := by
  apply ba_ext
  exact List.eq_nil_of_length_eq_zero (by rw [Array.length_toList]; exact h)
theorem ba_ne {s : ByteArray} (h : ¬ s = (⟨#[]⟩ : ByteArray)) : s.size ≠ 0 := fun e => h (ba_nil e)
theorem ba_eq {s : ByteArray} (h : s = (⟨#[]⟩ : ByteArray)) : s.size = 0 := by rw [h]; rfl
theorem one_i64 {v n : Int} (h : i64b v) (hn : n ∈ [v]) : i64b n := by rw [List.mem_singleton.1 hn]; exact h
section
variable {code k : Int} {data : ByteArray} {ns : List ByteArray} {nu a1 a2 a3 a4 a5 : Int}
theorem fmtA_err (h : code ≠ 0) : say ⟨#[101, 114, 114, 111, 114]⟩ [code] = fmtA code k data ns nu a1 a2 a3 a4 a5 := by unfold fmtA; rw [if_pos h]
theorem fmtA_ok (h : code = 0) (h1 : k = 1 ∨ k = 3 ∨ k = 4 ∨ k = 6) : (⟨#[111, 107]⟩ : ByteArray) = fmtA code k data ns nu a1 a2 a3 a4 a5 := by unfold fmtA; rw [if_neg (fun g => g h), if_pos h1]
theorem fmtA_data0 (h : code = 0) (h1 : k = 2) (h2 : data.size = 0) : say ⟨#[100, 97, 116, 97]⟩ [(data.size : Int)] = fmtA code k data ns nu a1 a2 a3 a4 a5 := by unfold fmtA; rw [if_neg (fun g => g h), if_neg (show ¬ (k = 1 ∨ k = 3 ∨ k = 4 ∨ k = 6) by omega), if_pos h1, if_pos h2]
theorem fmtA_data (h : code = 0) (h1 : k = 2) (h2 : data.size ≠ 0) : say ⟨#[100, 97, 116, 97]⟩ [(data.size : Int)] ++ ((⟨#[32]⟩ : ByteArray) ++ mkS (esc (nums8 data))) = fmtA code k data ns nu a1 a2 a3 a4 a5 := by unfold fmtA; rw [if_neg (fun g => g h), if_neg (show ¬ (k = 1 ∨ k = 3 ∨ k = 4 ∨ k = 6) by omega), if_pos h1, if_neg h2]
theorem fmtA_names (h : code = 0) (h1 : k = 5) : mkS (namesB (say ⟨#[110, 97, 109, 101, 115]⟩ [(ns.length : Int)]) ns) = fmtA code k data ns nu a1 a2 a3 a4 a5 := by unfold fmtA; rw [if_neg (fun g => g h), if_neg (show ¬ (k = 1 ∨ k = 3 ∨ k = 4 ∨ k = 6) by omega), if_neg (show ¬ k = 2 by omega), if_pos h1]
theorem fmtA_moved (h : code = 0) (h1 : k = 7) : say ⟨#[109, 111, 118, 101, 100]⟩ [nu] = fmtA code k data ns nu a1 a2 a3 a4 a5 := by unfold fmtA; rw [if_neg (fun g => g h), if_neg (show ¬ (k = 1 ∨ k = 3 ∨ k = 4 ∨ k = 6) by omega), if_neg (show ¬ k = 2 by omega), if_neg (show ¬ k = 5 by omega), if_pos h1]
theorem fmtA_stat (h : code = 0) (h1 : k = 8) : say ⟨#[115, 116, 97, 116]⟩ [a1, a2, a3, a4, a5] = fmtA code k data ns nu a1 a2 a3 a4 a5 := by unfold fmtA; rw [if_neg (fun g => g h), if_neg (show ¬ (k = 1 ∨ k = 3 ∨ k = 4 ∨ k = 6) by omega), if_neg (show ¬ k = 2 by omega), if_neg (show ¬ k = 5 by omega), if_neg (show ¬ k = 7 by omega), if_pos h1]
theorem fmtA_none (h : code = 0) (h1 : ¬ (k = 1 ∨ k = 3 ∨ k = 4 ∨ k = 6) ∧ k ≠ 2 ∧ k ≠ 5 ∧ k ≠ 7 ∧ k ≠ 8) : (⟨#[]⟩ : ByteArray) = fmtA code k data ns nu a1 a2 a3 a4 a5 := by unfold fmtA; rw [if_neg (fun g => g h), if_neg h1.1, if_neg h1.2.1, if_neg h1.2.2.1, if_neg h1.2.2.2.1, if_neg h1.2.2.2.2]
end
theorem impl_FormatAnswer {w : World} {F : List Nat} {k z : Int} {nm dt : ByteArray} {vn : Value} {ns : List ByteArray} {code nu a1 a2 a3 a4 a5 : Int} {data : ByteArray} (hR : kStr.R w F vn ns) (hc : i64b code) (hd : data.size ≤ 2000000) (hl : ns.length ≤ 2000000) (hs : namesL ns ≤ 20000000) (hnu : i64b nu) (ha1 : i64b a1) (ha2 : i64b a2) (ha3 : i64b a3) (ha4 : i64b a4) (ha5 : i64b a5) (ht : Go.Lib.TabIs Tryd.prog w "internal/strconv.uint64pow10" .u64 Go.Lib.pow10Tab) : Ret Tryd.prog 31 #[.agg #[.int .i64 k, .string nm, .string dt, .int .i64 z], .agg #[.int .i64 code, .string data, vn, .int .i64 nu, .int .i64 a1, .int .i64 a2, .int .i64 a3, .int .i64 a4, .int .i64 a5]] w (fun r w' => r = .string (fmtA code k data ns nu a1 a2 a3 a4 a5) ∧ Ch [] w w') := by
  refine enter Tryd.func31 rfl Tryd.ntmps31 (by rfl) (by rfl) ?_
  have H0 : Hold w [] w [] := Hold.start w
  have he3 := esc_len (nums8 data)
  rw [nums8_len] at he3
  have h32 : (⟨#[32]⟩ : ByteArray).size = 1 := rfl
  have hn5 : ∀ (s : ByteArray) (m : Nat), s.size ≤ 10 → m ≤ 2000000 → (say s [(m : Int)]).size ≤ 32 := fun s m h h2 => by
    have := say_size (s := s) (ns := [(m : Int)]) (fun n hn => by rw [List.mem_singleton.1 hn]; exact ⟨by omega, by omega⟩)
    simp only [List.length_singleton] at this; omega
  have hn4 := hn5 (⟨#[100, 97, 116, 97]⟩ : ByteArray) data.size (by decide) hd
  have hn6 := hn5 (⟨#[110, 97, 109, 101, 115]⟩ : ByteArray) ns.length (by decide) hl
  refine sq (rg (ef (xbx (t := 62) rfl rfl) ?_))
  rintro _ w1 ⟨g2, e1, rfl, -, b1, c1⟩
  have H1 : Hold w [] w1 [rB g2 62 ([.int .i64 k, .string nm, .string dt, .int .i64 z])] := Hold.newB H0 e1 b1 c1
  clear H0
  clear e1 b1 c1
  refine ef (xbx (t := 66) rfl rfl) ?_
  rintro _ w2 ⟨g3, e2, rfl, -, b2, c2⟩
  have H2 : Hold w [] w2 [rB g2 62 ([.int .i64 k, .string nm, .string dt, .int .i64 z]), rB g3 66 ([.int .i64 code, .string data, vn, .int .i64 nu, .int .i64 a1, .int .i64 a2, .int .i64 a3, .int .i64 a4, .int .i64 a5])] := Hold.newB H1 e2 b2 c2
  clear H1
  clear e2 b2 c2
  have b3 : B w2 g3 66 ([.int .i64 code, .string data, vn, .int .i64 nu, .int .i64 a1, .int .i64 a2, .int .i64 a3, .int .i64 a4, .int .i64 a5]) := Hold.blk H2 1 rfl
  refine r (sa rfl) (re (sq (sq (rg (r (fa Tryd.underlying66 rfl ti2 rfl rfl) (r (ldb Tryd.underlying2 rfl rfl b3 rfl) (r (bi rfl rfl rfl) (re ?_))))))))
  refine cpn rfl (fun hk4 => ?_) (fun hk4 => ?_)
  · refine sq (rg (r (fa Tryd.underlying66 rfl ti2 rfl rfl) (r (ldb Tryd.underlying2 rfl rfl b3 rfl) (ef (bsm (cs := [.int .i64 code]) Tryd.underlying23 ti2 rfl (by rfl) (pc rfl (cel1 rfl) pn) rfl) ?_))))
    rintro _ w5 ⟨g11, e5, rfl, -, b5, c5⟩
    have H3 : Hold w [] w5 [rB g2 62 ([.int .i64 k, .string nm, .string dt, .int .i64 z]), rB g3 66 ([.int .i64 code, .string data, vn, .int .i64 nu, .int .i64 a1, .int .i64 a2, .int .i64 a3, .int .i64 a4, .int .i64 a5]), rB g11 2 ([.int .i64 code])] := Hold.newB H2 e5 b5 c5
    clear H2
    clear e5 b5 c5
    have b7 : B w5 g11 2 ([.int .i64 code]) := Hold.blk H3 2 rfl
    refine cl go69 (words (ns := [code]) ((row_of_B (dk := i64) (xs := [code]) b7 (els_int [code]) (Nat.le_of_ble_eq_true rfl)).R) (Nat.le_of_ble_eq_true rfl) (fun n hn => by simp only [List.mem_cons, List.mem_nil_iff, or_false] at hn; unfold i64b at *; omega) (Nat.le_of_ble_eq_true rfl) (tab_ch ht (Hold.ch H3))) (ac rfl (ac rfl an)) ?_
    rintro r wr ⟨rfl, cr⟩
    have H4 : Hold w [] wr [rB g2 62 ([.int .i64 k, .string nm, .string dt, .int .i64 z]), rB g3 66 ([.int .i64 code, .string data, vn, .int .i64 nu, .int .i64 a1, .int .i64 a2, .int .i64 a3, .int .i64 a4, .int .i64 a5]), rB g11 2 ([.int .i64 code])] := Hold.t H3 cr
    clear H3
    clear cr
    refine r (sa rfl) (re (rt ?_))
    exact fin1 (v := .string (say (⟨#[101, 114, 114, 111, 114]⟩ : ByteArray) [code])) Tryd.results31 rfl ⟨congrArg Value.string (fmtA_err (by omega)), Hold.ch H4⟩
  · have b5 : B w2 g2 62 ([.int .i64 k, .string nm, .string dt, .int .i64 z]) := Hold.blk H2 0 rfl
    refine sk (sq (sq (rg (r (fa Tryd.underlying62 rfl ti2 rfl rfl) (r (ldb Tryd.underlying2 rfl rfl b5 rfl) (re (bl (sq (sq (rg (r (bi rfl rfl rfl) (r (sa rfl) (re ?_)))))))))))))
    refine cp rfl (fun hk6 => ?_) (fun hk6 => ?_)
    · refine sk ?_
      refine ct ((rfl : _ = Value.bool (decide (k = 1))).trans (congrArg Value.bool (show (decide (k = 1)) = true from (decide_eq_true hk6)))) ?_
      refine sq ?_
      refine gen (fun ρ => ρ 4 = .string (⟨#[]⟩ : ByteArray) ∧ True) ⟨rfl, trivial⟩ ?_
      rintro ρ ⟨z4, -⟩
      refine rg (r (sa rfl) (re (rt ?_)))
      exact fin1 (v := .string (⟨#[111, 107]⟩ : ByteArray)) Tryd.results31 rfl ⟨congrArg Value.string (fmtA_ok (by omega) (by omega)), Hold.ch H2⟩
    · refine sq ?_
      refine gen (fun ρ => ρ 3 = .pointer (some ⟨g3, 0, none⟩) ∧ ρ 4 = .string (⟨#[]⟩ : ByteArray) ∧ ρ 14 = .int .i64 k ∧ ρ 15 = .bool (decide (k = 1)) ∧ True) ⟨rfl, rfl, rfl, rfl, trivial⟩ ?_
      rintro ρ ⟨z3, z4, z14, z15, -⟩
      refine rg (r (bi z14 rfl rfl) (r (sa rfl) (re ?_)))
      refine cp rfl (fun hk7 => ?_) (fun hk7 => ?_)
      · refine sk ?_
        refine ct ((rfl : _ = Value.bool (decide (k = 3))).trans (congrArg Value.bool (show (decide (k = 3)) = true from (decide_eq_true hk7)))) ?_
        refine sq (rg (r (sa rfl) (re (rt ?_))))
        exact fin1 (v := .string (⟨#[111, 107]⟩ : ByteArray)) Tryd.results31 rfl ⟨congrArg Value.string (fmtA_ok (by omega) (by omega)), Hold.ch H2⟩
      · refine sq (rg (r (bi z14 rfl rfl) (r (sa rfl) (re ?_))))
        refine cp rfl (fun hk8 => ?_) (fun hk8 => ?_)
        · refine sk ?_
          refine ct ((rfl : _ = Value.bool (decide (k = 4))).trans (congrArg Value.bool (show (decide (k = 4)) = true from (decide_eq_true hk8)))) ?_
          refine sq (rg (r (sa rfl) (re (rt ?_))))
          exact fin1 (v := .string (⟨#[111, 107]⟩ : ByteArray)) Tryd.results31 rfl ⟨congrArg Value.string (fmtA_ok (by omega) (by omega)), Hold.ch H2⟩
        · refine rg (r (bi z14 rfl rfl) (r (sa rfl) (re ?_)))
          refine cp rfl (fun hk9 => ?_) (fun hk9 => ?_)
          · refine sq (rg (r (sa rfl) (re (rt ?_))))
            exact fin1 (v := .string (⟨#[111, 107]⟩ : ByteArray)) Tryd.results31 rfl ⟨congrArg Value.string (fmtA_ok (by omega) (by omega)), Hold.ch H2⟩
          · refine sq (rg (r (bi z14 rfl rfl) (r (sa rfl) (re ?_))))
            refine cp rfl (fun hk10 => ?_) (fun hk10 => ?_)
            · refine sq (rg (r (fa Tryd.underlying66 rfl ti9 rfl z3) (r (ldb Tryd.underlying9 rfl rfl b3 rfl) (r (lns Tryd.underlying9 rfl) (ef (bsm (cs := [.int .i64 (data.size : Int)]) Tryd.underlying23 ti2 rfl (by rfl) (pc rfl (cel1 rfl) pn) rfl) ?_)))))
              rintro _ w11 ⟨g25, e11, rfl, -, b11, c11⟩
              have H3 : Hold w [] w11 [rB g2 62 ([.int .i64 k, .string nm, .string dt, .int .i64 z]), rB g3 66 ([.int .i64 code, .string data, vn, .int .i64 nu, .int .i64 a1, .int .i64 a2, .int .i64 a3, .int .i64 a4, .int .i64 a5]), rB g25 2 ([.int .i64 (data.size : Int)])] := Hold.newB H2 e11 b11 c11
              clear H2
              clear e11 b11 c11
              have b13 : B w11 g25 2 ([.int .i64 (data.size : Int)]) := Hold.blk H3 2 rfl
              refine cl go69 (words (ns := [(data.size : Int)]) ((row_of_B (dk := i64) (xs := [(data.size : Int)]) b13 (els_int [(data.size : Int)]) (Nat.le_of_ble_eq_true rfl)).R) (Nat.le_of_ble_eq_true rfl) (fun n hn => by simp only [List.mem_cons, List.mem_nil_iff, or_false] at hn; unfold i64b at *; omega) (Nat.le_of_ble_eq_true rfl) (tab_ch ht (Hold.ch H3))) (ac rfl (ac rfl an)) ?_
              rintro r wr ⟨rfl, cr⟩
              have H4 : Hold w [] wr [rB g2 62 ([.int .i64 k, .string nm, .string dt, .int .i64 z]), rB g3 66 ([.int .i64 code, .string data, vn, .int .i64 nu, .int .i64 a1, .int .i64 a2, .int .i64 a3, .int .i64 a4, .int .i64 a5]), rB g25 2 ([.int .i64 (data.size : Int)])] := Hold.t H3 cr
              clear H3
              clear cr
              refine r (sa rfl) (re (sq (sq ?_)))
              refine gen (fun ρ => ρ 3 = .pointer (some ⟨g3, 0, none⟩) ∧ ρ 4 = .string (⟨#[]⟩ : ByteArray) ∧ ρ 5 = .string (say (⟨#[100, 97, 116, 97]⟩ : ByteArray) [(data.size : Int)]) ∧ True) ⟨z3, z4, rfl, trivial⟩ ?_
              rintro ρ ⟨z3, z4, z5, -⟩
              have b14 : B wr g3 66 ([.int .i64 code, .string data, vn, .int .i64 nu, .int .i64 a1, .int .i64 a2, .int .i64 a3, .int .i64 a4, .int .i64 a5]) := Hold.blk H4 1 rfl
              refine rg (r (fa Tryd.underlying66 rfl ti9 rfl z3) (r (ldb Tryd.underlying9 rfl rfl b14 rfl) (r (sne rfl rfl) (re ?_))))
              refine cpn rfl (fun hk15 => ?_) (fun hk15 => ?_)
              · refine rg (r (mv z5) (r (fa Tryd.underlying66 rfl ti9 rfl z3) (r (ldb Tryd.underlying9 rfl rfl b14 rfl) (cl go70 (impl_escape (by omega)) (ac rfl an) ?_))))
                rintro r wr ⟨rfl, cr⟩
                have H5 : Hold w [] wr [rB g2 62 ([.int .i64 k, .string nm, .string dt, .int .i64 z]), rB g3 66 ([.int .i64 code, .string data, vn, .int .i64 nu, .int .i64 a1, .int .i64 a2, .int .i64 a3, .int .i64 a4, .int .i64 a5]), rB g25 2 ([.int .i64 (data.size : Int)])] := Hold.t H4 cr
                clear H4
                clear cr
                refine r (sct rfl rfl (by rw [mkS_size]; omega)) (r (sct rfl rfl (by rw [ba_app_size, mkS_size]; omega)) (r (sa rfl) (re (sq ?_))))
                refine gen (fun ρ => ρ 4 = .string (⟨#[]⟩ : ByteArray) ∧ ρ 5 = .string ((say (⟨#[100, 97, 116, 97]⟩ : ByteArray) [(data.size : Int)]) ++ ((⟨#[32]⟩ : ByteArray) ++ (mkS (esc (nums8 data))))) ∧ True) ⟨z4, rfl, trivial⟩ ?_
                rintro ρ ⟨z4, z5, -⟩
                refine rg (r (mv z5) (r (sa rfl) (re (rt ?_))))
                exact fin1 (v := .string ((say (⟨#[100, 97, 116, 97]⟩ : ByteArray) [(data.size : Int)]) ++ ((⟨#[32]⟩ : ByteArray) ++ (mkS (esc (nums8 data)))))) Tryd.results31 rfl ⟨congrArg Value.string (fmtA_data (by omega) (by omega) (ba_ne hk15)), Hold.ch H5⟩
              · refine sk (sq (rg (r (mv z5) (r (sa rfl) (re (rt ?_))))))
                exact fin1 (v := .string (say (⟨#[100, 97, 116, 97]⟩ : ByteArray) [(data.size : Int)])) Tryd.results31 rfl ⟨congrArg Value.string (fmtA_data0 (by omega) (by omega) (ba_eq hk15)), Hold.ch H4⟩
            · refine sq (rg (r (bi z14 rfl rfl) (r (sa rfl) (re ?_))))
              refine cp rfl (fun hk11 => ?_) (fun hk11 => ?_)
              · refine sq ?_
                refine gen (fun ρ => ρ 3 = .pointer (some ⟨g3, 0, none⟩) ∧ ρ 4 = .string (⟨#[]⟩ : ByteArray) ∧ True) ⟨z3, z4, trivial⟩ ?_
                rintro ρ ⟨z3, z4, -⟩
                refine rde mixed ?_
                intro w12 c12
                have H3 : Hold w [] w12 [rB g2 62 ([.int .i64 k, .string nm, .string dt, .int .i64 z]), rB g3 66 ([.int .i64 code, .string data, vn, .int .i64 nu, .int .i64 a1, .int .i64 a2, .int .i64 a3, .int .i64 a4, .int .i64 a5])] := Hold.t H2 c12
                clear H2
                clear c12
                have H13d0 : Hold w12 [] w12 [] := Hold.start w12
                refine ⟨fun w' => Ch [] w12 w', Ch.refl _ _, ?_⟩
                have b14 : B w12 g3 66 ([.int .i64 code, .string data, vn, .int .i64 nu, .int .i64 a1, .int .i64 a2, .int .i64 a3, .int .i64 a4, .int .i64 a5]) := Hold.blk H3 1 rfl
                refine edt 0 rfl (by kernel_rfl) (fun w' hS => fa Tryd.underlying66 rfl ti54 rfl z3) (edt 1 rfl (by kernel_rfl) (fun w' hS => ldb Tryd.underlying54 rfl rfl (hS.b0 b14) rfl) (edt 2 rfl (by kernel_rfl) (fun w' hS => ln Tryd.underlying54 rfl (((hR.t (Hold.ch H3)).t hS))) (edt 6 rfl (by kernel_rfl) (fun w' hS => fa Tryd.underlying66 rfl ti54 rfl z3) (edt 7 rfl (by kernel_rfl) (fun w' hS => ldb Tryd.underlying54 rfl rfl (hS.b0 b14) rfl) (ed1 3 (by kernel_rfl) <| euf rfl (bsm (cs := [.int .i64 (ns.length : Int)]) Tryd.underlying23 ti2 rfl (by rfl) (pc rfl (cel1 rfl) pn) rfl) ?_)))))
                rintro _ w15 ⟨g42, e15, rfl, -, b15, c15⟩
                have H4d : Hold w12 [] w15 [rB g42 2 ([.int .i64 (ns.length : Int)])] := Hold.newB H13d0 e15 b15 c15
                clear H13d0
                clear e15 b15 c15
                refine ⟨.inr (Hold.ch H4d), ?_⟩
                have b17 : B w15 g42 2 ([.int .i64 (ns.length : Int)]) := Hold.blk H4d 0 rfl
                refine ed1 4 (by kernel_rfl) <| euc rfl go69 (ac rfl (ac rfl an)) (words (ns := [(ns.length : Int)]) ((row_of_B (dk := i64) (xs := [(ns.length : Int)]) b17 (els_int [(ns.length : Int)]) (Nat.le_of_ble_eq_true rfl)).R) (Nat.le_of_ble_eq_true rfl) (fun n hn => by simp only [List.mem_cons, List.mem_nil_iff, or_false] at hn; unfold i64b at *; omega) (Nat.le_of_ble_eq_true rfl) (tab_ch ht ((Hold.ch H3).t (Hold.ch H4d)))) ?_
                rintro r wr ⟨rfl, cr⟩
                have H5d : Hold w12 [] wr [rB g42 2 ([.int .i64 (ns.length : Int)])] := Hold.t H4d cr
                clear H4d
                clear cr
                refine ⟨.inr (Hold.ch H5d), ?_⟩
                refine ed1 5 (by kernel_rfl) <| euf rfl (bsm (cs := [.string (say (⟨#[110, 97, 109, 101, 115]⟩ : ByteArray) [(ns.length : Int)])]) Tryd.underlying54 ti9 rfl (by rfl) (pc rfl (cel1 rfl) pn) rfl) ?_
                rintro _ w18 ⟨g44, e18, rfl, -, b18, c18⟩
                have H6d : Hold w12 [] w18 [rB g42 2 ([.int .i64 (ns.length : Int)]), rB g44 9 ([.string (say (⟨#[110, 97, 109, 101, 115]⟩ : ByteArray) [(ns.length : Int)])])] := Hold.newB H5d e18 b18 c18
                clear H5d
                clear e18 b18 c18
                have H7d : Hold w12 [] w18 [rB g42 2 ([.int .i64 (ns.length : Int)]), rR kStr 9 (.slice (some ⟨g44, 0, none⟩) 1 1) ([say (⟨#[110, 97, 109, 101, 115]⟩ : ByteArray) [(ns.length : Int)]])] := Hold.asrow (dk := kStr) (xs := [say (⟨#[110, 97, 109, 101, 115]⟩ : ByteArray) [(ns.length : Int)]]) (m := 1) H6d 1 rfl (els_str [say (⟨#[110, 97, 109, 101, 115]⟩ : ByteArray) [(ns.length : Int)]]) ⟨rfl, Nat.le_of_ble_eq_true rfl⟩ rfl
                clear H6d
                refine ⟨.inr (Hold.ch H7d), ?_⟩
                obtain ⟨F20, P20, n20, s20, K20⟩ := Hold.pick H7d 1 rfl
                replace P20 : Kd.W kStr 9 w18 F20 (.slice (some ⟨g44, 0, none⟩) 1 1) ([say (⟨#[110, 97, 109, 101, 115]⟩ : ByteArray) [(ns.length : Int)]]) := P20
                refine ed1 8 (by kernel_rfl) <| euf rfl (aps Tryd.underlying54 ti9 rfl flat_str rfl rfl P20 (((hR.t (Hold.ch H3)).t (Hold.ch H7d))) n20 (by simp only [List.length_singleton]; omega)) ?_
                rintro v47_19 w19 ⟨F19, A19⟩
                have H8d : Hold w12 [] w19 [rB g42 2 ([.int .i64 (ns.length : Int)]), rR kStr 9 v47_19 (([say (⟨#[110, 97, 109, 101, 115]⟩ : ByteArray) [(ns.length : Int)]]) ++ ns)] := Hold.apd K20 P20 A19 rfl
                clear H7d
                clear A19 K20 P20 n20 s20
                refine ⟨.inr (Hold.ch H8d), ?_⟩
                refine ed1 9 (by kernel_rfl) <| euc rfl go71 (ac rfl (ac rfl an)) (Join (x := say (⟨#[110, 97, 109, 101, 115]⟩ : ByteArray) [(ns.length : Int)]) (xs := ns) (Hold.rowW H8d 1 rfl).choose_spec (by omega) (by omega)) ?_
                rintro r wj ⟨rfl, cj⟩
                have H9d : Hold w12 [] wj [rB g42 2 ([.int .i64 (ns.length : Int)]), rR kStr 9 v47_19 (([say (⟨#[110, 97, 109, 101, 115]⟩ : ByteArray) [(ns.length : Int)]]) ++ ns)] := Hold.t H8d cj
                clear H8d
                clear cj
                refine ⟨.inr (Hold.ch H9d), ?_⟩
                have H10 : Hold w [] wj [rB g2 62 ([.int .i64 k, .string nm, .string dt, .int .i64 z]), rB g3 66 ([.int .i64 code, .string data, vn, .int .i64 nu, .int .i64 a1, .int .i64 a2, .int .i64 a3, .int .i64 a4, .int .i64 a5]), rB g42 2 ([.int .i64 (ns.length : Int)]), rR kStr 9 v47_19 (([say (⟨#[110, 97, 109, 101, 115]⟩ : ByteArray) [(ns.length : Int)]]) ++ ns)] := Hold.news H3 H9d
                clear H9d H3
                refine ed1 10 (by kernel_rfl) <| eur rfl (sa rfl) (.inl (by kernel_rfl)) ?_
                refine edd (by kernel_rfl) ?_
                refine rt ?_
                exact fin1 (v := .string (mkS (namesB (say (⟨#[110, 97, 109, 101, 115]⟩ : ByteArray) [(ns.length : Int)]) ns))) Tryd.results31 rfl ⟨congrArg Value.string (fmtA_names (by omega) (by omega)), Hold.ch H10⟩
              · refine sq ?_
                refine gen (fun ρ => ρ 3 = .pointer (some ⟨g3, 0, none⟩) ∧ ρ 4 = .string (⟨#[]⟩ : ByteArray) ∧ ρ 14 = .int .i64 k ∧ True) ⟨z3, z4, z14, trivial⟩ ?_
                rintro ρ ⟨z3, z4, z14, -⟩
                refine rg (r (bi z14 rfl rfl) (r (sa rfl) (re ?_)))
                refine cp rfl (fun hk12 => ?_) (fun hk12 => ?_)
                · refine sq (rg (r (fa Tryd.underlying66 rfl ti2 rfl z3) (r (ldb Tryd.underlying2 rfl rfl b3 rfl) (ef (bsm (cs := [.int .i64 nu]) Tryd.underlying23 ti2 rfl (by rfl) (pc rfl (cel1 rfl) pn) rfl) ?_))))
                  rintro _ w13 ⟨g53, e13, rfl, -, b13, c13⟩
                  have H3 : Hold w [] w13 [rB g2 62 ([.int .i64 k, .string nm, .string dt, .int .i64 z]), rB g3 66 ([.int .i64 code, .string data, vn, .int .i64 nu, .int .i64 a1, .int .i64 a2, .int .i64 a3, .int .i64 a4, .int .i64 a5]), rB g53 2 ([.int .i64 nu])] := Hold.newB H2 e13 b13 c13
                  clear H2
                  clear e13 b13 c13
                  have b15 : B w13 g53 2 ([.int .i64 nu]) := Hold.blk H3 2 rfl
                  refine cl go69 (words (ns := [nu]) ((row_of_B (dk := i64) (xs := [nu]) b15 (els_int [nu]) (Nat.le_of_ble_eq_true rfl)).R) (Nat.le_of_ble_eq_true rfl) (fun n hn => by simp only [List.mem_cons, List.mem_nil_iff, or_false] at hn; unfold i64b at *; omega) (Nat.le_of_ble_eq_true rfl) (tab_ch ht (Hold.ch H3))) (ac rfl (ac rfl an)) ?_
                  rintro r wr ⟨rfl, cr⟩
                  have H4 : Hold w [] wr [rB g2 62 ([.int .i64 k, .string nm, .string dt, .int .i64 z]), rB g3 66 ([.int .i64 code, .string data, vn, .int .i64 nu, .int .i64 a1, .int .i64 a2, .int .i64 a3, .int .i64 a4, .int .i64 a5]), rB g53 2 ([.int .i64 nu])] := Hold.t H3 cr
                  clear H3
                  clear cr
                  refine r (sa rfl) (re (rt ?_))
                  exact fin1 (v := .string (say (⟨#[109, 111, 118, 101, 100]⟩ : ByteArray) [nu])) Tryd.results31 rfl ⟨congrArg Value.string (fmtA_moved (by omega) (by omega)), Hold.ch H4⟩
                · refine sq (rg (r (bi z14 rfl rfl) (r (sa rfl) (re ?_))))
                  refine cp rfl (fun hk13 => ?_) (fun hk13 => ?_)
                  · refine sq (rg (r (fa Tryd.underlying66 rfl ti64 rfl z3) (r (fa Tryd.underlying64 rfl ti2 rfl rfl) (r (ldb Tryd.underlying2 rfl rfl b3 rfl) (r (fa Tryd.underlying66 rfl ti64 rfl z3) (r (fa Tryd.underlying64 rfl ti2 rfl rfl) (r (ldb Tryd.underlying2 rfl rfl b3 rfl) (r (fa Tryd.underlying66 rfl ti64 rfl z3) (r (fa Tryd.underlying64 rfl ti2 rfl rfl) (r (ldb Tryd.underlying2 rfl rfl b3 rfl) (r (fa Tryd.underlying66 rfl ti64 rfl z3) (r (fa Tryd.underlying64 rfl ti2 rfl rfl) (r (ldb Tryd.underlying2 rfl rfl b3 rfl) (r (fa Tryd.underlying66 rfl ti64 rfl z3) (r (fa Tryd.underlying64 rfl ti2 rfl rfl) (r (ldb Tryd.underlying2 rfl rfl b3 rfl) (ef (bsm (cs := [.int .i64 a1, .int .i64 a2, .int .i64 a3, .int .i64 a4, .int .i64 a5]) Tryd.underlying23 ti2 rfl (by rfl) (pc rfl (cel1 rfl) (pc rfl (cel1 rfl) (pc rfl (cel1 rfl) (pc rfl (cel1 rfl) (pc rfl (cel1 rfl) pn))))) rfl) ?_)))))))))))))))))
                    rintro _ w14 ⟨g72, e14, rfl, -, b14, c14⟩
                    have H3 : Hold w [] w14 [rB g2 62 ([.int .i64 k, .string nm, .string dt, .int .i64 z]), rB g3 66 ([.int .i64 code, .string data, vn, .int .i64 nu, .int .i64 a1, .int .i64 a2, .int .i64 a3, .int .i64 a4, .int .i64 a5]), rB g72 2 ([.int .i64 a1, .int .i64 a2, .int .i64 a3, .int .i64 a4, .int .i64 a5])] := Hold.newB H2 e14 b14 c14
                    clear H2
                    clear e14 b14 c14
                    have b16 : B w14 g72 2 ([.int .i64 a1, .int .i64 a2, .int .i64 a3, .int .i64 a4, .int .i64 a5]) := Hold.blk H3 2 rfl
                    refine cl go69 (words (ns := [a1, a2, a3, a4, a5]) ((row_of_B (dk := i64) (xs := [a1, a2, a3, a4, a5]) b16 (els_int [a1, a2, a3, a4, a5]) (Nat.le_of_ble_eq_true rfl)).R) (Nat.le_of_ble_eq_true rfl) (fun n hn => by simp only [List.mem_cons, List.mem_nil_iff, or_false] at hn; unfold i64b at *; omega) (Nat.le_of_ble_eq_true rfl) (tab_ch ht (Hold.ch H3))) (ac rfl (ac rfl an)) ?_
                    rintro r wr ⟨rfl, cr⟩
                    have H4 : Hold w [] wr [rB g2 62 ([.int .i64 k, .string nm, .string dt, .int .i64 z]), rB g3 66 ([.int .i64 code, .string data, vn, .int .i64 nu, .int .i64 a1, .int .i64 a2, .int .i64 a3, .int .i64 a4, .int .i64 a5]), rB g72 2 ([.int .i64 a1, .int .i64 a2, .int .i64 a3, .int .i64 a4, .int .i64 a5])] := Hold.t H3 cr
                    clear H3
                    clear cr
                    refine r (sa rfl) (re (rt ?_))
                    exact fin1 (v := .string (say (⟨#[115, 116, 97, 116]⟩ : ByteArray) [a1, a2, a3, a4, a5])) Tryd.results31 rfl ⟨congrArg Value.string (fmtA_stat (by omega) (by omega)), Hold.ch H4⟩
                  · refine sk (be (sq (rg (r (sa rfl) (re (rt ?_))))))
                    exact fin1 (v := .string (⟨#[]⟩ : ByteArray)) Tryd.results31 rfl ⟨congrArg Value.string (fmtA_none (by omega) (by omega)), Hold.ch H2⟩
theorem spec_FormatAnswer {w : World} {F : List Nat} {k z : Int} {nm dt : ByteArray} {vn : Value} {ns : List ByteArray} {code nu a1 a2 a3 a4 a5 : Int} {data : ByteArray} (hR : kStr.R w F vn ns) (hc : i64b code) (hd : data.size ≤ 2000000) (hl : ns.length ≤ 2000000) (hs : namesL ns ≤ 20000000) (hnu : i64b nu) (ha1 : i64b a1) (ha2 : i64b a2) (ha3 : i64b a3) (ha4 : i64b a4) (ha5 : i64b a5) : Ret Tryd.prog 28 #[.agg #[.int .i64 k, .string nm, .string dt, .int .i64 z], .agg #[.int .i64 code, .string data, vn, .int .i64 nu, .int .i64 a1, .int .i64 a2, .int .i64 a3, .int .i64 a4, .int .i64 a5]] w (fun r w' => r = .string (fmtA code k data ns nu a1 a2 a3 a4 a5) ∧ Ch [] w w') := by
  refine enter Tryd.func28 rfl Tryd.ntmps28 (by rfl) (by rfl) ?_
  have H0 : Hold w [] w [] := Hold.start w
  have he3 := esc_len (nums8 data)
  rw [nums8_len] at he3
  have h32 : (⟨#[32]⟩ : ByteArray).size = 1 := rfl
  have hn5 : ∀ (s : ByteArray) (m : Nat), s.size ≤ 10 → m ≤ 2000000 → (say s [(m : Int)]).size ≤ 32 := fun s m h h2 => by
    have := say_size (s := s) (ns := [(m : Int)]) (fun n hn => by rw [List.mem_singleton.1 hn]; exact ⟨by omega, by omega⟩)
    simp only [List.length_singleton] at this; omega
  have hn4 := hn5 (⟨#[100, 97, 116, 97]⟩ : ByteArray) data.size (by decide) hd
  have hn6 := hn5 (⟨#[110, 97, 109, 101, 115]⟩ : ByteArray) ns.length (by decide) hl
  refine sq (rg (ef (xbx (t := 62) rfl rfl) ?_))
  rintro _ w1 ⟨g2, e1, rfl, -, b1, c1⟩
  have H1 : Hold w [] w1 [rB g2 62 ([.int .i64 k, .string nm, .string dt, .int .i64 z])] := Hold.newB H0 e1 b1 c1
  clear H0
  clear e1 b1 c1
  refine ef (xbx (t := 66) rfl rfl) ?_
  rintro _ w2 ⟨g3, e2, rfl, -, b2, c2⟩
  have H2 : Hold w [] w2 [rB g2 62 ([.int .i64 k, .string nm, .string dt, .int .i64 z]), rB g3 66 ([.int .i64 code, .string data, vn, .int .i64 nu, .int .i64 a1, .int .i64 a2, .int .i64 a3, .int .i64 a4, .int .i64 a5])] := Hold.newB H1 e2 b2 c2
  clear H1
  clear e2 b2 c2
  have b3 : B w2 g3 66 ([.int .i64 code, .string data, vn, .int .i64 nu, .int .i64 a1, .int .i64 a2, .int .i64 a3, .int .i64 a4, .int .i64 a5]) := Hold.blk H2 1 rfl
  refine r (sa rfl) (re (sq (sq (rg (r (fa Tryd.underlying66 rfl ti2 rfl rfl) (r (ldb Tryd.underlying2 rfl rfl b3 rfl) (r (bi rfl rfl rfl) (re ?_))))))))
  refine cpn rfl (fun hk4 => ?_) (fun hk4 => ?_)
  · refine sq (rg (r (fa Tryd.underlying66 rfl ti2 rfl rfl) (r (ldb Tryd.underlying2 rfl rfl b3 rfl) (ef (bsm (cs := [.int .i64 code]) Tryd.underlying23 ti2 rfl (by rfl) (pc rfl (cel1 rfl) pn) rfl) ?_))))
    rintro _ w5 ⟨g14, e5, rfl, -, b5, c5⟩
    have H3 : Hold w [] w5 [rB g2 62 ([.int .i64 k, .string nm, .string dt, .int .i64 z]), rB g3 66 ([.int .i64 code, .string data, vn, .int .i64 nu, .int .i64 a1, .int .i64 a2, .int .i64 a3, .int .i64 a4, .int .i64 a5]), rB g14 2 ([.int .i64 code])] := Hold.newB H2 e5 b5 c5
    clear H2
    clear e5 b5 c5
    have b7 : B w5 g14 2 ([.int .i64 code]) := Hold.blk H3 2 rfl
    refine cl go65 (l6Say (ns := [code]) ((row_of_B (dk := i64) (xs := [code]) b7 (els_int [code]) (Nat.le_of_ble_eq_true rfl)).R) (Nat.le_of_ble_eq_true rfl) (fun n hn => by simp only [List.mem_cons, List.mem_nil_iff, or_false] at hn; unfold i64b at *; omega) (Nat.le_of_ble_eq_true rfl)) (ac rfl (ac rfl an)) ?_
    rintro r wr ⟨rfl, cr⟩
    have H4 : Hold w [] wr [rB g2 62 ([.int .i64 k, .string nm, .string dt, .int .i64 z]), rB g3 66 ([.int .i64 code, .string data, vn, .int .i64 nu, .int .i64 a1, .int .i64 a2, .int .i64 a3, .int .i64 a4, .int .i64 a5]), rB g14 2 ([.int .i64 code])] := Hold.t H3 cr
    clear H3
    clear cr
    refine r (sa rfl) (re (rt ?_))
    exact fin1 (v := .string (say (⟨#[101, 114, 114, 111, 114]⟩ : ByteArray) [code])) Tryd.results28 rfl ⟨congrArg Value.string (fmtA_err (by omega)), Hold.ch H4⟩
  · have b5 : B w2 g2 62 ([.int .i64 k, .string nm, .string dt, .int .i64 z]) := Hold.blk H2 0 rfl
    refine sk (sq (sq (rg (r (fa Tryd.underlying62 rfl ti2 rfl rfl) (r (ldb Tryd.underlying2 rfl rfl b5 rfl) (re (bl (sq (sq (rg (r (bi rfl rfl rfl) (r (sa rfl) (re ?_)))))))))))))
    refine cp rfl (fun hk6 => ?_) (fun hk6 => ?_)
    · refine sk ?_
      refine ct ((rfl : _ = Value.bool (decide (k = 1))).trans (congrArg Value.bool (show (decide (k = 1)) = true from (decide_eq_true hk6)))) ?_
      refine sq ?_
      refine gen (fun ρ => ρ 4 = .string (⟨#[]⟩ : ByteArray) ∧ True) ⟨rfl, trivial⟩ ?_
      rintro ρ ⟨z4, -⟩
      refine rg (r (sa rfl) (re (rt ?_)))
      exact fin1 (v := .string (⟨#[111, 107]⟩ : ByteArray)) Tryd.results28 rfl ⟨congrArg Value.string (fmtA_ok (by omega) (by omega)), Hold.ch H2⟩
    · refine sq ?_
      refine gen (fun ρ => ρ 3 = .pointer (some ⟨g3, 0, none⟩) ∧ ρ 4 = .string (⟨#[]⟩ : ByteArray) ∧ ρ 17 = .int .i64 k ∧ ρ 18 = .bool (decide (k = 1)) ∧ True) ⟨rfl, rfl, rfl, rfl, trivial⟩ ?_
      rintro ρ ⟨z3, z4, z17, z18, -⟩
      refine rg (r (bi z17 rfl rfl) (r (sa rfl) (re ?_)))
      refine cp rfl (fun hk7 => ?_) (fun hk7 => ?_)
      · refine sk ?_
        refine ct ((rfl : _ = Value.bool (decide (k = 3))).trans (congrArg Value.bool (show (decide (k = 3)) = true from (decide_eq_true hk7)))) ?_
        refine sq (rg (r (sa rfl) (re (rt ?_))))
        exact fin1 (v := .string (⟨#[111, 107]⟩ : ByteArray)) Tryd.results28 rfl ⟨congrArg Value.string (fmtA_ok (by omega) (by omega)), Hold.ch H2⟩
      · refine sq (rg (r (bi z17 rfl rfl) (r (sa rfl) (re ?_))))
        refine cp rfl (fun hk8 => ?_) (fun hk8 => ?_)
        · refine sk ?_
          refine ct ((rfl : _ = Value.bool (decide (k = 4))).trans (congrArg Value.bool (show (decide (k = 4)) = true from (decide_eq_true hk8)))) ?_
          refine sq (rg (r (sa rfl) (re (rt ?_))))
          exact fin1 (v := .string (⟨#[111, 107]⟩ : ByteArray)) Tryd.results28 rfl ⟨congrArg Value.string (fmtA_ok (by omega) (by omega)), Hold.ch H2⟩
        · refine rg (r (bi z17 rfl rfl) (r (sa rfl) (re ?_)))
          refine cp rfl (fun hk9 => ?_) (fun hk9 => ?_)
          · refine sq (rg (r (sa rfl) (re (rt ?_))))
            exact fin1 (v := .string (⟨#[111, 107]⟩ : ByteArray)) Tryd.results28 rfl ⟨congrArg Value.string (fmtA_ok (by omega) (by omega)), Hold.ch H2⟩
          · refine sq (rg (r (bi z17 rfl rfl) (r (sa rfl) (re ?_))))
            refine cp rfl (fun hk10 => ?_) (fun hk10 => ?_)
            · refine sq (rg (r (fa Tryd.underlying66 rfl ti9 rfl z3) (r (ldb Tryd.underlying9 rfl rfl b3 rfl) (r (lns Tryd.underlying9 rfl) (ef (bsm (cs := [.int .i64 (data.size : Int)]) Tryd.underlying23 ti2 rfl (by rfl) (pc rfl (cel1 rfl) pn) rfl) ?_)))))
              rintro _ w11 ⟨g28, e11, rfl, -, b11, c11⟩
              have H3 : Hold w [] w11 [rB g2 62 ([.int .i64 k, .string nm, .string dt, .int .i64 z]), rB g3 66 ([.int .i64 code, .string data, vn, .int .i64 nu, .int .i64 a1, .int .i64 a2, .int .i64 a3, .int .i64 a4, .int .i64 a5]), rB g28 2 ([.int .i64 (data.size : Int)])] := Hold.newB H2 e11 b11 c11
              clear H2
              clear e11 b11 c11
              have b13 : B w11 g28 2 ([.int .i64 (data.size : Int)]) := Hold.blk H3 2 rfl
              refine cl go65 (l6Say (ns := [(data.size : Int)]) ((row_of_B (dk := i64) (xs := [(data.size : Int)]) b13 (els_int [(data.size : Int)]) (Nat.le_of_ble_eq_true rfl)).R) (Nat.le_of_ble_eq_true rfl) (fun n hn => by simp only [List.mem_cons, List.mem_nil_iff, or_false] at hn; unfold i64b at *; omega) (Nat.le_of_ble_eq_true rfl)) (ac rfl (ac rfl an)) ?_
              rintro r wr ⟨rfl, cr⟩
              have H4 : Hold w [] wr [rB g2 62 ([.int .i64 k, .string nm, .string dt, .int .i64 z]), rB g3 66 ([.int .i64 code, .string data, vn, .int .i64 nu, .int .i64 a1, .int .i64 a2, .int .i64 a3, .int .i64 a4, .int .i64 a5]), rB g28 2 ([.int .i64 (data.size : Int)])] := Hold.t H3 cr
              clear H3
              clear cr
              refine r (sa rfl) (re (sq (sq ?_)))
              refine gen (fun ρ => ρ 3 = .pointer (some ⟨g3, 0, none⟩) ∧ ρ 4 = .string (⟨#[]⟩ : ByteArray) ∧ ρ 5 = .string (say (⟨#[100, 97, 116, 97]⟩ : ByteArray) [(data.size : Int)]) ∧ True) ⟨z3, z4, rfl, trivial⟩ ?_
              rintro ρ ⟨z3, z4, z5, -⟩
              have b14 : B wr g3 66 ([.int .i64 code, .string data, vn, .int .i64 nu, .int .i64 a1, .int .i64 a2, .int .i64 a3, .int .i64 a4, .int .i64 a5]) := Hold.blk H4 1 rfl
              refine rg (r (fa Tryd.underlying66 rfl ti9 rfl z3) (r (ldb Tryd.underlying9 rfl rfl b14 rfl) (r (lns Tryd.underlying9 rfl) (r (bi rfl rfl rfl) (re ?_)))))
              refine cp rfl (fun hk15 => ?_) (fun hk15 => ?_)
              · refine rg (r (mv z5) (r (fa Tryd.underlying66 rfl ti9 rfl z3) (r (ldb Tryd.underlying9 rfl rfl b14 rfl) (cl go66 (spec_escape (by omega)) (ac rfl an) ?_))))
                rintro r wr ⟨rfl, cr⟩
                have H5 : Hold w [] wr [rB g2 62 ([.int .i64 k, .string nm, .string dt, .int .i64 z]), rB g3 66 ([.int .i64 code, .string data, vn, .int .i64 nu, .int .i64 a1, .int .i64 a2, .int .i64 a3, .int .i64 a4, .int .i64 a5]), rB g28 2 ([.int .i64 (data.size : Int)])] := Hold.t H4 cr
                clear H4
                clear cr
                refine r (sct rfl rfl (by rw [mkS_size]; omega)) (r (sct rfl rfl (by rw [ba_app_size, mkS_size]; omega)) (r (sa rfl) (re (sq ?_))))
                refine gen (fun ρ => ρ 4 = .string (⟨#[]⟩ : ByteArray) ∧ ρ 5 = .string ((say (⟨#[100, 97, 116, 97]⟩ : ByteArray) [(data.size : Int)]) ++ ((⟨#[32]⟩ : ByteArray) ++ (mkS (esc (nums8 data))))) ∧ True) ⟨z4, rfl, trivial⟩ ?_
                rintro ρ ⟨z4, z5, -⟩
                refine rg (r (mv z5) (r (sa rfl) (re (rt ?_))))
                exact fin1 (v := .string ((say (⟨#[100, 97, 116, 97]⟩ : ByteArray) [(data.size : Int)]) ++ ((⟨#[32]⟩ : ByteArray) ++ (mkS (esc (nums8 data)))))) Tryd.results28 rfl ⟨congrArg Value.string (fmtA_data (by omega) (by omega) (by omega)), Hold.ch H5⟩
              · refine sk (sq (rg (r (mv z5) (r (sa rfl) (re (rt ?_))))))
                exact fin1 (v := .string (say (⟨#[100, 97, 116, 97]⟩ : ByteArray) [(data.size : Int)])) Tryd.results28 rfl ⟨congrArg Value.string (fmtA_data0 (by omega) (by omega) (by omega)), Hold.ch H4⟩
            · refine sq (rg (r (bi z17 rfl rfl) (r (sa rfl) (re ?_))))
              refine cp rfl (fun hk11 => ?_) (fun hk11 => ?_)
              · refine sq ?_
                refine gen (fun ρ => ρ 3 = .pointer (some ⟨g3, 0, none⟩) ∧ ρ 4 = .string (⟨#[]⟩ : ByteArray) ∧ True) ⟨z3, z4, trivial⟩ ?_
                rintro ρ ⟨z3, z4, -⟩
                refine rg (r (fa Tryd.underlying66 rfl ti54 rfl z3) (r (ldb Tryd.underlying54 rfl rfl b3 rfl) (r (ln Tryd.underlying54 rfl ((hR.t (Hold.ch H2)))) (ef (bsm (cs := [.int .i64 (ns.length : Int)]) Tryd.underlying23 ti2 rfl (by rfl) (pc rfl (cel1 rfl) pn) rfl) ?_))))
                rintro _ w12 ⟨g46, e12, rfl, -, b12, c12⟩
                have H3 : Hold w [] w12 [rB g2 62 ([.int .i64 k, .string nm, .string dt, .int .i64 z]), rB g3 66 ([.int .i64 code, .string data, vn, .int .i64 nu, .int .i64 a1, .int .i64 a2, .int .i64 a3, .int .i64 a4, .int .i64 a5]), rB g46 2 ([.int .i64 (ns.length : Int)])] := Hold.newB H2 e12 b12 c12
                clear H2
                clear e12 b12 c12
                have b14 : B w12 g46 2 ([.int .i64 (ns.length : Int)]) := Hold.blk H3 2 rfl
                refine cl go65 (l6Say (ns := [(ns.length : Int)]) ((row_of_B (dk := i64) (xs := [(ns.length : Int)]) b14 (els_int [(ns.length : Int)]) (Nat.le_of_ble_eq_true rfl)).R) (Nat.le_of_ble_eq_true rfl) (fun n hn => by simp only [List.mem_cons, List.mem_nil_iff, or_false] at hn; unfold i64b at *; omega) (Nat.le_of_ble_eq_true rfl)) (ac rfl (ac rfl an)) ?_
                rintro r wr ⟨rfl, cr⟩
                have H4 : Hold w [] wr [rB g2 62 ([.int .i64 k, .string nm, .string dt, .int .i64 z]), rB g3 66 ([.int .i64 code, .string data, vn, .int .i64 nu, .int .i64 a1, .int .i64 a2, .int .i64 a3, .int .i64 a4, .int .i64 a5]), rB g46 2 ([.int .i64 (ns.length : Int)])] := Hold.t H3 cr
                clear H3
                clear cr
                refine r (sa rfl) (re (sq (rg (r (mv rfl) (ef (cvsz Tryd.underlying9 Tryd.underlying22 Tryd.underlying5 rfl) ?_)))))
                rintro v15 w15 ⟨g15, e15, M15, c15⟩
                have H5 : Hold w [] w15 [rB g2 62 ([.int .i64 k, .string nm, .string dt, .int .i64 z]), rB g3 66 ([.int .i64 code, .string data, vn, .int .i64 nu, .int .i64 a1, .int .i64 a2, .int .i64 a3, .int .i64 a4, .int .i64 a5]), rB g46 2 ([.int .i64 (ns.length : Int)]), rZ v15 (nums8 (say (⟨#[110, 97, 109, 101, 115]⟩ : ByteArray) [(ns.length : Int)]))] := Hold.newZ H4 e15 M15 c15
                clear H4
                clear e15 M15 c15
                refine r (sa rfl) (re (sq (sq (rg (r (sa rfl) (re (bl ?_)))))))
                have e0 : nums8 (say (⟨#[110, 97, 109, 101, 115]⟩ : ByteArray) [(ns.length : Int)]) = namesB (say (⟨#[110, 97, 109, 101, 115]⟩ : ByteArray) [(ns.length : Int)]) (ns.take 0) := by simp [namesB]
                rw [e0] at H5
                refine lp (α := Nat × Value) (fun (i, v) ρ w' => ρ 3 = .pointer (some ⟨g3, 0, none⟩) ∧ ρ 7 = v ∧ ρ 8 = .int .i64 (i : Int) ∧ Hold w [] w' [rB g2 62 ([.int .i64 k, .string nm, .string dt, .int .i64 z]), rB g3 66 ([.int .i64 code, .string data, vn, .int .i64 nu, .int .i64 a1, .int .i64 a2, .int .i64 a3, .int .i64 a4, .int .i64 a5]), rB g46 2 ([.int .i64 (ns.length : Int)]), rZ v (namesB (say (⟨#[110, 97, 109, 101, 115]⟩ : ByteArray) [(ns.length : Int)]) (ns.take i))] ∧ i ≤ ns.length) (fun (i, v) => ns.length - i) (0, v15) ?_ ?_
                · exact ⟨z3, rfl, rfl, H5, by omega⟩
                clear H5
                rintro ⟨i, v⟩ ρ w506 ⟨y3, y7, y8, H6, hi⟩
                have b16 : B w506 g3 66 ([.int .i64 code, .string data, vn, .int .i64 nu, .int .i64 a1, .int .i64 a2, .int .i64 a3, .int .i64 a4, .int .i64 a5]) := Hold.blk H6 1 rfl
                refine sq (sq (rg (r (mv y8) (r (fa Tryd.underlying66 rfl ti54 rfl y3) (r (ldb Tryd.underlying54 rfl rfl b16 rfl) (r (ln Tryd.underlying54 rfl ((hR.t (Hold.ch H6)))) (r (bi rfl rfl rfl) (re ?_))))))))
                refine cp rfl (fun h => ?_) (fun h => ?_)
                · have hi' : i < ns.length := by omega
                  have hz : (namesB (say (⟨#[110, 97, 109, 101, 115]⟩ : ByteArray) [(ns.length : Int)]) (ns.take (i + 1))).length ≤ 32 + namesL ns := by
                    rw [namesB_len]; have := namesL_take ns (i + 1); omega
                  rw [namesB_take hi'] at hz
                  simp only [List.length_append, List.length_singleton, nums8_len] at hz
                  refine sk (sq (bl (sq (rg (r (mv y7) (ef (xbs1 (cs := [.int .u8 32]) Tryd.underlying22 ti5 rfl rfl rfl (cel1 rfl) rfl) ?_))))))
                  rintro _ w17 ⟨g58, e17, rfl, -, b17, c17⟩
                  have H7 : Hold w [] w17 [rB g2 62 ([.int .i64 k, .string nm, .string dt, .int .i64 z]), rB g3 66 ([.int .i64 code, .string data, vn, .int .i64 nu, .int .i64 a1, .int .i64 a2, .int .i64 a3, .int .i64 a4, .int .i64 a5]), rB g46 2 ([.int .i64 (ns.length : Int)]), rZ v (namesB (say (⟨#[110, 97, 109, 101, 115]⟩ : ByteArray) [(ns.length : Int)]) (ns.take i)), rB g58 5 ([.int .u8 32])] := Hold.newB H6 e17 b17 c17
                  clear H6
                  clear e17 b17 c17
                  have b19 : B w17 g58 5 ([.int .u8 32]) := Hold.blk H7 4 rfl
                  obtain ⟨F20, P20, n20, s20, K20⟩ := Hold.pick H7 3 rfl
                  replace P20 : MW w17 F20 v (namesB (say (⟨#[110, 97, 109, 101, 115]⟩ : ByteArray) [(ns.length : Int)]) (ns.take i)) := P20
                  refine ef (apzb Tryd.underlying22 ti5 rfl rfl rfl P20 b19 (by omega)) ?_
                  rintro v59_18 w18 ⟨F18, A18, T18⟩
                  have H8 : Hold w [] w18 [rB g2 62 ([.int .i64 k, .string nm, .string dt, .int .i64 z]), rB g3 66 ([.int .i64 code, .string data, vn, .int .i64 nu, .int .i64 a1, .int .i64 a2, .int .i64 a3, .int .i64 a4, .int .i64 a5]), rB g46 2 ([.int .i64 (ns.length : Int)]), rZ v59_18 ((namesB (say (⟨#[110, 97, 109, 101, 115]⟩ : ByteArray) [(ns.length : Int)]) (ns.take i)) ++ [32]), rB g58 5 ([.int .u8 32])] := K20 _ (rZ v59_18 ((namesB (say (⟨#[110, 97, 109, 101, 115]⟩ : ByteArray) [(ns.length : Int)]) (ns.take i)) ++ [32])) F18 _ A18 T18 rfl
                  clear H7
                  clear A18 T18 K20 P20 n20 s20
                  have b21 : B w18 g3 66 ([.int .i64 code, .string data, vn, .int .i64 nu, .int .i64 a1, .int .i64 a2, .int .i64 a3, .int .i64 a4, .int .i64 a5]) := Hold.blk H8 1 rfl
                  refine r (sa rfl) (re (rg (r (mv rfl) (r (fa Tryd.underlying66 rfl ti54 rfl y3) (r (ldb Tryd.underlying54 rfl rfl b21 rfl) (r (mv y8) ?_))))))
                  obtain ⟨c64_22, ad64_22, k64_22, e64_22, p64_22⟩ := Kd.R.place hR i (by omega)
                  obtain ⟨F24, P24, n24, s24, K24⟩ := Hold.pick H8 3 rfl
                  replace P24 : MW w18 F24 v59_18 ((namesB (say (⟨#[110, 97, 109, 101, 115]⟩ : ByteArray) [(ns.length : Int)]) (ns.take i)) ++ [32]) := P24
                  refine r (ix (j := i) Tryd.underlying54 ti9 e64_22 rfl (by omega)) (r (ld Tryd.underlying9 rfl rfl (Ch.cell (Hold.ch H8) p64_22.cell)) (ef (apzs Tryd.underlying22 Tryd.underlying9 ti5 rfl rfl rfl P24 (by simp only [List.length_append, List.length_singleton]; omega)) ?_))
                  rintro v66_23 w23 ⟨F23, A23, T23⟩
                  have H9 : Hold w [] w23 [rB g2 62 ([.int .i64 k, .string nm, .string dt, .int .i64 z]), rB g3 66 ([.int .i64 code, .string data, vn, .int .i64 nu, .int .i64 a1, .int .i64 a2, .int .i64 a3, .int .i64 a4, .int .i64 a5]), rB g46 2 ([.int .i64 (ns.length : Int)]), rZ v66_23 (((namesB (say (⟨#[110, 97, 109, 101, 115]⟩ : ByteArray) [(ns.length : Int)]) (ns.take i)) ++ [32]) ++ nums8 (ns[i])), rB g58 5 ([.int .u8 32])] := K24 _ (rZ v66_23 (((namesB (say (⟨#[110, 97, 109, 101, 115]⟩ : ByteArray) [(ns.length : Int)]) (ns.take i)) ++ [32]) ++ nums8 (ns[i]))) F23 _ A23 T23 rfl
                  clear H8
                  clear A23 T23 K24 P24 n24 s24
                  refine r (sa rfl) (re (be ?_))
                  refine gen (fun ρ => ρ 3 = .pointer (some ⟨g3, 0, none⟩) ∧ ρ 7 = v66_23 ∧ ρ 8 = .int .i64 (i : Int) ∧ True) ⟨y3, rfl, y8, trivial⟩ ?_
                  rintro ρ ⟨z3, z7, z8, -⟩
                  refine rg (r (mv z8) (r (ad (a := (i : Int)) (b := 1) ((i : Int) + 1) rfl rfl (by omega)) (r (sa rfl) (re ?_))))
                  have H10 : Hold w [] w23 [rB g2 62 ([.int .i64 k, .string nm, .string dt, .int .i64 z]), rB g3 66 ([.int .i64 code, .string data, vn, .int .i64 nu, .int .i64 a1, .int .i64 a2, .int .i64 a3, .int .i64 a4, .int .i64 a5]), rB g46 2 ([.int .i64 (ns.length : Int)]), rZ v66_23 (((namesB (say (⟨#[110, 97, 109, 101, 115]⟩ : ByteArray) [(ns.length : Int)]) (ns.take i)) ++ [32]) ++ nums8 (ns[i]))] := (show Hold w [] w23 ([rB g2 62 ([.int .i64 k, .string nm, .string dt, .int .i64 z]), rB g3 66 ([.int .i64 code, .string data, vn, .int .i64 nu, .int .i64 a1, .int .i64 a2, .int .i64 a3, .int .i64 a4, .int .i64 a5]), rB g46 2 ([.int .i64 (ns.length : Int)]), rZ v66_23 (((namesB (say (⟨#[110, 97, 109, 101, 115]⟩ : ByteArray) [(ns.length : Int)]) (ns.take i)) ++ [32]) ++ nums8 (ns[i]))] ++ [rB g58 5 ([.int .u8 32])]) from Hold.re H9 [0, 1, 2, 3, 4] (by kernel_rfl) (by rfl)).drop
                  clear H9
                  exact ag (i + 1, v66_23) ⟨z3, z7, rfl, (by rw [namesB_take hi']; exact H10), by omega⟩ (by first | omega | (dsimp only; omega))
                · have ei : i = ns.length := by omega
                  rw [ei, List.take_length] at H6
                  obtain ⟨_, R17⟩ : ∃ F, Kd.R u8 w506 F v (namesB (say (⟨#[110, 97, 109, 101, 115]⟩ : ByteArray) [(ns.length : Int)]) ns) := Hold.rowZ H6 3 rfl
                  refine ex rfl (sq (rg (r (mv y7) (r (cvbs Tryd.underlying22 Tryd.underlying5 Tryd.underlying9 R17 rfl) (r (sa rfl) (re (rt ?_)))))))
                  exact fin1 (v := .string (mkS (namesB (say (⟨#[110, 97, 109, 101, 115]⟩ : ByteArray) [(ns.length : Int)]) ns))) Tryd.results28 rfl ⟨congrArg Value.string (fmtA_names (by omega) (by omega)), Hold.ch H6⟩
              · refine sq ?_
                refine gen (fun ρ => ρ 3 = .pointer (some ⟨g3, 0, none⟩) ∧ ρ 4 = .string (⟨#[]⟩ : ByteArray) ∧ ρ 17 = .int .i64 k ∧ True) ⟨z3, z4, z17, trivial⟩ ?_
                rintro ρ ⟨z3, z4, z17, -⟩
                refine rg (r (bi z17 rfl rfl) (r (sa rfl) (re ?_)))
                refine cp rfl (fun hk12 => ?_) (fun hk12 => ?_)
                · refine sq (rg (r (fa Tryd.underlying66 rfl ti2 rfl z3) (r (ldb Tryd.underlying2 rfl rfl b3 rfl) (ef (bsm (cs := [.int .i64 nu]) Tryd.underlying23 ti2 rfl (by rfl) (pc rfl (cel1 rfl) pn) rfl) ?_))))
                  rintro _ w13 ⟨g73, e13, rfl, -, b13, c13⟩
                  have H3 : Hold w [] w13 [rB g2 62 ([.int .i64 k, .string nm, .string dt, .int .i64 z]), rB g3 66 ([.int .i64 code, .string data, vn, .int .i64 nu, .int .i64 a1, .int .i64 a2, .int .i64 a3, .int .i64 a4, .int .i64 a5]), rB g73 2 ([.int .i64 nu])] := Hold.newB H2 e13 b13 c13
                  clear H2
                  clear e13 b13 c13
                  have b15 : B w13 g73 2 ([.int .i64 nu]) := Hold.blk H3 2 rfl
                  refine cl go65 (l6Say (ns := [nu]) ((row_of_B (dk := i64) (xs := [nu]) b15 (els_int [nu]) (Nat.le_of_ble_eq_true rfl)).R) (Nat.le_of_ble_eq_true rfl) (fun n hn => by simp only [List.mem_cons, List.mem_nil_iff, or_false] at hn; unfold i64b at *; omega) (Nat.le_of_ble_eq_true rfl)) (ac rfl (ac rfl an)) ?_
                  rintro r wr ⟨rfl, cr⟩
                  have H4 : Hold w [] wr [rB g2 62 ([.int .i64 k, .string nm, .string dt, .int .i64 z]), rB g3 66 ([.int .i64 code, .string data, vn, .int .i64 nu, .int .i64 a1, .int .i64 a2, .int .i64 a3, .int .i64 a4, .int .i64 a5]), rB g73 2 ([.int .i64 nu])] := Hold.t H3 cr
                  clear H3
                  clear cr
                  refine r (sa rfl) (re (rt ?_))
                  exact fin1 (v := .string (say (⟨#[109, 111, 118, 101, 100]⟩ : ByteArray) [nu])) Tryd.results28 rfl ⟨congrArg Value.string (fmtA_moved (by omega) (by omega)), Hold.ch H4⟩
                · refine sq (rg (r (bi z17 rfl rfl) (r (sa rfl) (re ?_))))
                  refine cp rfl (fun hk13 => ?_) (fun hk13 => ?_)
                  · refine sq (rg (r (fa Tryd.underlying66 rfl ti64 rfl z3) (r (fa Tryd.underlying64 rfl ti2 rfl rfl) (r (ldb Tryd.underlying2 rfl rfl b3 rfl) (r (fa Tryd.underlying66 rfl ti64 rfl z3) (r (fa Tryd.underlying64 rfl ti2 rfl rfl) (r (ldb Tryd.underlying2 rfl rfl b3 rfl) (r (fa Tryd.underlying66 rfl ti64 rfl z3) (r (fa Tryd.underlying64 rfl ti2 rfl rfl) (r (ldb Tryd.underlying2 rfl rfl b3 rfl) (r (fa Tryd.underlying66 rfl ti64 rfl z3) (r (fa Tryd.underlying64 rfl ti2 rfl rfl) (r (ldb Tryd.underlying2 rfl rfl b3 rfl) (r (fa Tryd.underlying66 rfl ti64 rfl z3) (r (fa Tryd.underlying64 rfl ti2 rfl rfl) (r (ldb Tryd.underlying2 rfl rfl b3 rfl) (ef (bsm (cs := [.int .i64 a1, .int .i64 a2, .int .i64 a3, .int .i64 a4, .int .i64 a5]) Tryd.underlying23 ti2 rfl (by rfl) (pc rfl (cel1 rfl) (pc rfl (cel1 rfl) (pc rfl (cel1 rfl) (pc rfl (cel1 rfl) (pc rfl (cel1 rfl) pn))))) rfl) ?_)))))))))))))))))
                    rintro _ w14 ⟨g92, e14, rfl, -, b14, c14⟩
                    have H3 : Hold w [] w14 [rB g2 62 ([.int .i64 k, .string nm, .string dt, .int .i64 z]), rB g3 66 ([.int .i64 code, .string data, vn, .int .i64 nu, .int .i64 a1, .int .i64 a2, .int .i64 a3, .int .i64 a4, .int .i64 a5]), rB g92 2 ([.int .i64 a1, .int .i64 a2, .int .i64 a3, .int .i64 a4, .int .i64 a5])] := Hold.newB H2 e14 b14 c14
                    clear H2
                    clear e14 b14 c14
                    have b16 : B w14 g92 2 ([.int .i64 a1, .int .i64 a2, .int .i64 a3, .int .i64 a4, .int .i64 a5]) := Hold.blk H3 2 rfl
                    refine cl go65 (l6Say (ns := [a1, a2, a3, a4, a5]) ((row_of_B (dk := i64) (xs := [a1, a2, a3, a4, a5]) b16 (els_int [a1, a2, a3, a4, a5]) (Nat.le_of_ble_eq_true rfl)).R) (Nat.le_of_ble_eq_true rfl) (fun n hn => by simp only [List.mem_cons, List.mem_nil_iff, or_false] at hn; unfold i64b at *; omega) (Nat.le_of_ble_eq_true rfl)) (ac rfl (ac rfl an)) ?_
                    rintro r wr ⟨rfl, cr⟩
                    have H4 : Hold w [] wr [rB g2 62 ([.int .i64 k, .string nm, .string dt, .int .i64 z]), rB g3 66 ([.int .i64 code, .string data, vn, .int .i64 nu, .int .i64 a1, .int .i64 a2, .int .i64 a3, .int .i64 a4, .int .i64 a5]), rB g92 2 ([.int .i64 a1, .int .i64 a2, .int .i64 a3, .int .i64 a4, .int .i64 a5])] := Hold.t H3 cr
                    clear H3
                    clear cr
                    refine r (sa rfl) (re (rt ?_))
                    exact fin1 (v := .string (say (⟨#[115, 116, 97, 116]⟩ : ByteArray) [a1, a2, a3, a4, a5])) Tryd.results28 rfl ⟨congrArg Value.string (fmtA_stat (by omega) (by omega)), Hold.ch H4⟩
                  · refine sk (be (sq (rg (r (sa rfl) (re (rt ?_))))))
                    exact fin1 (v := .string (⟨#[]⟩ : ByteArray)) Tryd.results28 rfl ⟨congrArg Value.string (fmtA_none (by omega) (by omega)), Hold.ch H2⟩
end Go.Proofs.YtgpcanjmgdmdhaaDoor
