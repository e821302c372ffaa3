/-
  CONTRACTS 54: drawn counts, drawn tables. No condition.
-/
import Derived.Test.Ytgpcanjmgdmdhaa30
import Derived.Test.YtgpcanjmgdmdhaaMap
namespace Go.Eng
theorem fin3 {P : Program} {n : Nat} {ρ : Fr} {w : World} {fn : Func} {Φ : Value → World → Prop} {t u x : Nat} {v v' v2 : Value} (hr : fn.results = #[.tmp t, .tmp u, .tmp x]) (hv : ρ t = v) (hv' : ρ u = v') (hv2 : ρ x = v2) (h : Φ (.tuple #[v, v', v2]) w) : S P n [] (Fin P fn Φ) ρ [] w :=
  fing (v := .tuple #[v, v', v2]) (fun tmps ht => by
    have e1 := (ht t).trans hv
    have e2 := (ht u).trans hv'
    have e3 := (ht x).trans hv2
    simp only [Array.getD_eq_getD_getElem?] at e1 e2 e3
    simp [results, hr, e1, e2, e3]) h
end Go.Eng
namespace Go.Proofs.Ytgpcanjmgdmdhaa
open Go Go.Eng
set_option maxRecDepth 100000
set_option maxHeartbeats 4000000
set_option linter.unusedVariables false
set_option linter.unusedSimpArgs false
theorem l4DrawCounts {w : World} {F : List Nat} {g : Nat} {v : Value} {s : Src} (h : Hs w [rB g 172 [v, .int .i64 (s.pt : Int), .int .i64 s.mix, .int .i64 s.size], rR u8 5 v s.code] F) (nd : F.Nodup) (ok : SrcOk s) : Ret Try.prog 110 #[.pointer (some ⟨g, 0, none⟩)] w (fun r w' => ∃ (cs : List Int) (s' : Src), cs.length ≤ 10 ∧ SrcOk s' ∧ Hold w F w' [rB g 172 [v, .int .i64 (s'.pt : Int), .int .i64 s'.mix, .int .i64 s'.size], rR u8 5 v s'.code, rR i64 2 r cs]) := by
  refine enter Try.func110 rfl Try.ntmps110 (by rfl) (by rfl) ?_
  have H0 : Hold w F w [rB g 172 ([v, .int .i64 (s.pt : Int), .int .i64 s.mix, .int .i64 s.size]), rR u8 5 v s.code] := Hold.begin h nd
  have da1 := nx_0 (n := 10) ok
  have dc1 := nx_1 (s := s) (n := 10) (by omega)
  have do1 := nx_ok (n := 10) ok
  obtain ⟨dz1, hz1⟩ : ∃ z, z = (nx s 10).1 := ⟨_, rfl⟩
  obtain ⟨ds1, hs1⟩ : ∃ z, z = (nx s 10).2 := ⟨_, rfl⟩
  rw [← hz1] at da1 dc1
  rw [← hs1] at do1
  obtain ⟨m, hm1⟩ : ∃ m : Nat, dz1 = (m : Int) := ⟨dz1.toNat, by omega⟩
  refine sq (rg (r (sa rfl) (re (sq (rg (ef (xbs0 (dk := i64) Try.underlying22 ti2) ?_))))))
  rintro v2 w2 N2
  have H1 : Hold w F w2 [rB g 172 ([v, .int .i64 (s.pt : Int), .int .i64 s.mix, .int .i64 s.size]), rR u8 5 v s.code, rR i64 2 v2 ([])] := Hold.newr H0 N2
  clear H0
  obtain ⟨F3, hF3, n3, s3, K3⟩ := Hold.front (Γ := [rB g 172 ([v, .int .i64 (s.pt : Int), .int .i64 s.mix, .int .i64 s.size]), rR u8 5 v s.code]) (Δ := [rR i64 2 v2 ([])]) H1
  refine r (sa rfl) (re (sq (sq (rg (r (mv rfl) (cl go111 (l1Next (s := s) (m := 10) hF3 n3 ok (by omega)) (ac rfl (ac rfl an)) ?_))))))
  rintro r wn1 ⟨er1, Hn1⟩
  rw [← hz1, hm1] at er1
  rw [← hs1] at Hn1
  subst er1
  have H2 : Hold w F wn1 [rB g 172 ([v, .int .i64 (ds1.pt : Int), .int .i64 ds1.mix, .int .i64 ds1.size]), rR u8 5 v ds1.code, rR i64 2 v2 ([])] := Hold.call K3 Hn1
  clear H1
  clear K3 hF3 n3 s3
  clear Hn1
  refine r (sa rfl) (re (bl ?_))
  refine lp (α := Nat × Value × List Int × Src) (fun (j, o, cs, s1) ρ w' => ρ 0 = .pointer (some ⟨g, 0, none⟩) ∧ ρ 3 = o ∧ ρ 4 = .int .i64 ((m : Int) - (j : Int)) ∧ Hold w F w' [rB g 172 ([v, .int .i64 (s1.pt : Int), .int .i64 s1.mix, .int .i64 s1.size]), rR u8 5 v s1.code, rR i64 2 o cs] ∧ j ≤ m ∧ cs.length = j ∧ SrcOk s1) (fun (j, o, cs, s1) => m - j) (0, v2, [], ds1) ?_ ?_
  · exact ⟨rfl, rfl, (show _ = Value.int .i64 (m : Int) from rfl).trans (by simp), H2, ⟨by omega, rfl, do1⟩⟩
  clear H2
  rintro ⟨j, o, cs, s1⟩ ρ w503 ⟨y0, y3, y4, H3, ⟨hj, hcs, ok1⟩⟩
  refine sq (sq (rg (r (mv y4) (r (bi rfl rfl rfl) (re ?_)))))
  refine cp rfl (fun h => ?_) (fun h => ?_)
  · have da4 := nx_0 (n := 5) ok1
    have dc4 := nx_1 (s := s1) (n := 5) (by omega)
    have do4 := nx_ok (n := 5) ok1
    obtain ⟨dz4, hz4⟩ : ∃ z, z = (nx s1 5).1 := ⟨_, rfl⟩
    obtain ⟨ds4, hs4⟩ : ∃ z, z = (nx s1 5).2 := ⟨_, rfl⟩
    rw [← hz4] at da4 dc4
    rw [← hs4] at do4
    obtain ⟨F5, hF5, n5, s5, K5⟩ := Hold.front (Γ := [rB g 172 ([v, .int .i64 (s1.pt : Int), .int .i64 s1.mix, .int .i64 s1.size]), rR u8 5 v s1.code]) (Δ := [rR i64 2 o cs]) H3
    refine sk (sq (bl (rg (r (mv y3) (r (mv y0) (cl go111 (l1Next (s := s1) (m := 5) hF5 n5 ok1 (by omega)) (ac rfl (ac rfl an)) ?_))))))
    rintro r wn4 ⟨er4, Hn4⟩
    rw [← hz4] at er4
    rw [← hs4] at Hn4
    subst er4
    have H4 : Hold w F wn4 [rB g 172 ([v, .int .i64 (ds4.pt : Int), .int .i64 ds4.mix, .int .i64 ds4.size]), rR u8 5 v ds4.code, rR i64 2 o cs] := Hold.call K5 Hn4
    clear H3
    clear K5 hF5 n5 s5
    clear Hn4
    refine ef (xbs1 (cs := [.int .i64 dz4]) Try.underlying22 ti2 rfl rfl rfl (cel1 rfl) rfl) ?_
    rintro _ w6 ⟨g15, e6, rfl, -, b6, c6⟩
    have H5 : Hold w F w6 [rB g 172 ([v, .int .i64 (ds4.pt : Int), .int .i64 ds4.mix, .int .i64 ds4.size]), rR u8 5 v ds4.code, rR i64 2 o cs, rB g15 2 ([.int .i64 dz4])] := Hold.newB H4 e6 b6 c6
    clear H4
    clear e6 b6 c6
    have b8 : B w6 g15 2 ([.int .i64 dz4]) := Hold.blk H5 3 rfl
    obtain ⟨F9, P9, n9, s9, K9⟩ := Hold.pick H5 2 rfl
    replace P9 : Kd.W i64 2 w6 F9 o cs := P9
    refine ef (xapb (ys := [dz4]) Try.underlying22 ti2 rfl rfl rfl P9 b8 (els_one (R := Kd.O i64 _) (show Kd.O i64 _ [] dz4 _ from ⟨rfl, rfl⟩)) (nodup_nil n9) (by simp; omega)) ?_
    rintro v16_7 w7 ⟨F7, A7⟩
    have H6 : Hold w F w7 [rB g 172 ([v, .int .i64 (ds4.pt : Int), .int .i64 ds4.mix, .int .i64 ds4.size]), rR u8 5 v ds4.code, rR i64 2 v16_7 (cs ++ [dz4]), rB g15 2 ([.int .i64 dz4])] := Hold.apd K9 P9 A7 rfl
    clear H5
    clear A7 K9 P9 n9 s9
    refine r (sa rfl) (re (be (rg (r (mv y4) (r (sb (a := (m : Int) - (j : Int)) (b := 1) ((m : Int) - ((j + 1 : Nat) : Int)) rfl rfl (by omega)) (r (sa rfl) (re ?_)))))))
    have H7 : Hold w F w7 [rB g 172 ([v, .int .i64 (ds4.pt : Int), .int .i64 ds4.mix, .int .i64 ds4.size]), rR u8 5 v ds4.code, rR i64 2 v16_7 (cs ++ [dz4])] := (show Hold w F w7 ([rB g 172 ([v, .int .i64 (ds4.pt : Int), .int .i64 ds4.mix, .int .i64 ds4.size]), rR u8 5 v ds4.code, rR i64 2 v16_7 (cs ++ [dz4])] ++ [rB g15 2 ([.int .i64 dz4])]) from Hold.re H6 [0, 1, 2, 3] (by kernel_rfl) (by rfl)).drop
    clear H6
    exact ag (j + 1, v16_7, cs ++ [dz4], ds4) ⟨y0, rfl, rfl, H7, ⟨by omega, by simp; omega, do4⟩⟩ (by first | omega | (dsimp only; omega))
  · have hl : cs.length ≤ 10 := by omega
    obtain ⟨_, R4⟩ : ∃ F, Kd.R i64 w503 F o cs := Hold.row H3 2 rfl
    refine ex rfl (sq (sq (rg (r (mv y3) (r (ln Try.underlying22 rfl (R4)) (r (bi rfl rfl rfl) (r (mv rfl) ?_)))))))
    refine sp 20 rfl (fun h1 => ?_) (fun h1 => ?_)
    · have da5 := nx_0 (n := 12) ok1
      have dc5 := nx_1 (s := s1) (n := 12) (by omega)
      have do5 := nx_ok (n := 12) ok1
      obtain ⟨dz5, hz5⟩ : ∃ z, z = (nx s1 12).1 := ⟨_, rfl⟩
      obtain ⟨ds5, hs5⟩ : ∃ z, z = (nx s1 12).2 := ⟨_, rfl⟩
      rw [← hz5] at da5 dc5
      rw [← hs5] at do5
      obtain ⟨F6, hF6, n6, s6, K6⟩ := Hold.front (Γ := [rB g 172 ([v, .int .i64 (s1.pt : Int), .int .i64 s1.mix, .int .i64 s1.size]), rR u8 5 v s1.code]) (Δ := [rR i64 2 o cs]) H3
      refine gy rfl rfl rfl (r (mv y0) (gy rfl rfl rfl (cl go111 (l1Next (s := s1) (m := 12) hF6 n6 ok1 (by omega)) (ac rfl (ac rfl an)) ?_)))
      rintro r wn5 ⟨er5, Hn5⟩
      rw [← hz5] at er5
      rw [← hs5] at Hn5
      subst er5
      have H4 : Hold w F wn5 [rB g 172 ([v, .int .i64 (ds5.pt : Int), .int .i64 ds5.mix, .int .i64 ds5.size]), rR u8 5 v ds5.code, rR i64 2 o cs] := Hold.call K6 Hn5
      clear H3
      clear K6 hF6 n6 s6
      clear Hn5
      refine gy rfl rfl rfl (r (bi rfl rfl rfl) (r (pk rfl rfl) (re ?_)))
      refine cp rfl (fun h12 => ?_) (fun h12 => ?_)
      · refine gen (fun ρ => ρ 0 = .pointer (some ⟨g, 0, none⟩) ∧ ρ 3 = o ∧ True) ⟨y0, y3, trivial⟩ ?_
        rintro ρ ⟨z0, z3, -⟩
        obtain ⟨F8, P8, n8, s8, K8⟩ := Hold.pick H4 2 rfl
        replace P8 : Kd.W i64 2 wn5 F8 o cs := P8
        refine rg (r (mv z3) (ixs (a := -1) (j := 0) Try.underlying22 ti2 rfl P8 rfl (by omega) (fun _ => rfl) ⟨rfl, rfl⟩ (nodup_nil n8) ?_))
        intro _ w7 F7 s7 A7
        have H5 : Hold w F w7 [rB g 172 ([v, .int .i64 (ds5.pt : Int), .int .i64 ds5.mix, .int .i64 ds5.size]), rR u8 5 v ds5.code, rR i64 2 o (cs.set 0 (-1))] := Hold.apd K8 P8 A7 rfl
        clear H4
        clear A7 K8 P8 n8 s8 s7
        obtain ⟨_, R9⟩ : ∃ F, Kd.R i64 w7 F o (cs.set 0 (-1)) := Hold.row H5 2 rfl
        refine re (sq (sq (rg (r (mv z3) (r (ln Try.underlying22 rfl (R9)) (r (bi rfl rfl rfl) (r (mv rfl) ?_)))))))
        refine sp 30 rfl (fun h2 => ?_) (fun h2 => ?_)
        · have da10 := nx_0 (n := 12) do5
          have dc10 := nx_1 (s := ds5) (n := 12) (by omega)
          have do10 := nx_ok (n := 12) do5
          obtain ⟨dz10, hz10⟩ : ∃ z, z = (nx ds5 12).1 := ⟨_, rfl⟩
          obtain ⟨ds10, hs10⟩ : ∃ z, z = (nx ds5 12).2 := ⟨_, rfl⟩
          rw [← hz10] at da10 dc10
          rw [← hs10] at do10
          obtain ⟨F11, hF11, n11, s11, K11⟩ := Hold.front (Γ := [rB g 172 ([v, .int .i64 (ds5.pt : Int), .int .i64 ds5.mix, .int .i64 ds5.size]), rR u8 5 v ds5.code]) (Δ := [rR i64 2 o (cs.set 0 (-1))]) H5
          refine gy rfl rfl rfl (r (mv z0) (gy rfl rfl rfl (cl go111 (l1Next (s := ds5) (m := 12) hF11 n11 do5 (by omega)) (ac rfl (ac rfl an)) ?_)))
          rintro r wn10 ⟨er10, Hn10⟩
          rw [← hz10] at er10
          rw [← hs10] at Hn10
          subst er10
          have H6 : Hold w F wn10 [rB g 172 ([v, .int .i64 (ds10.pt : Int), .int .i64 ds10.mix, .int .i64 ds10.size]), rR u8 5 v ds10.code, rR i64 2 o (cs.set 0 (-1))] := Hold.call K11 Hn10
          clear H5
          clear K11 hF11 n11 s11
          clear Hn10
          refine gy rfl rfl rfl (r (bi rfl rfl rfl) (r (pk rfl rfl) (re ?_)))
          refine cp rfl (fun h3 => ?_) (fun h3 => ?_)
          · refine gen (fun ρ => ρ 3 = o ∧ True) ⟨z3, trivial⟩ ?_
            rintro ρ ⟨z3, -⟩
            obtain ⟨_, R12⟩ : ∃ F, Kd.R i64 wn10 F o (cs.set 0 (-1)) := Hold.row H6 2 rfl
            obtain ⟨F14, P14, n14, s14, K14⟩ := Hold.pick H6 2 rfl
            replace P14 : Kd.W i64 2 wn10 F14 o (cs.set 0 (-1)) := P14
            refine rg (r (mv z3) (r (mv z3) (r (ln Try.underlying22 rfl (R12)) (r (sb (a := ((cs.set 0 (-1)).length : Int)) (b := 1) ((((cs.set 0 (-1)).length - 1 : Nat) : Int)) rfl rfl (by simp at *; omega)) (ixs (a := 9223372036854775807) (j := (cs.set 0 (-1)).length - 1) Try.underlying22 ti2 rfl P14 rfl (by simp at *; omega) (fun _ => rfl) ⟨rfl, rfl⟩ (nodup_nil n14) ?_)))))
            intro _ w13 F13 s13 A13
            have H7 : Hold w F w13 [rB g 172 ([v, .int .i64 (ds10.pt : Int), .int .i64 ds10.mix, .int .i64 ds10.size]), rR u8 5 v ds10.code, rR i64 2 o ((cs.set 0 (-1)).set ((cs.set 0 (-1)).length - 1) 9223372036854775807)] := Hold.apd K14 P14 A13 rfl
            clear H6
            clear A13 K14 P14 n14 s14 s13
            refine re (sq (rg (r (mv z3) (r (sa rfl) (re (rt ?_))))))
            exact fin1 (v := o) Try.results110 rfl ⟨_, _, (by first | omega | (simp; omega)), do10, H7⟩
          · refine sk (sq ?_)
            refine gen (fun ρ => ρ 3 = o ∧ True) ⟨z3, trivial⟩ ?_
            rintro ρ ⟨z3, -⟩
            refine rg (r (mv z3) (r (sa rfl) (re (rt ?_))))
            exact fin1 (v := o) Try.results110 rfl ⟨_, _, (by first | omega | (simp; omega)), do10, H6⟩
        · refine gn rfl rfl rfl (gn rfl rfl rfl (gn rfl rfl rfl (r (pk rfl rfl) (re (cf rfl (sk (sq ?_)))))))
          refine gen (fun ρ => ρ 3 = o ∧ True) ⟨z3, trivial⟩ ?_
          rintro ρ ⟨z3, -⟩
          refine rg (r (mv z3) (r (sa rfl) (re (rt ?_))))
          exact fin1 (v := o) Try.results110 rfl ⟨_, _, (by first | omega | (simp; omega)), do5, H5⟩
      · refine sk (sq (sq ?_))
        refine gen (fun ρ => ρ 0 = .pointer (some ⟨g, 0, none⟩) ∧ ρ 3 = o ∧ True) ⟨y0, y3, trivial⟩ ?_
        rintro ρ ⟨z0, z3, -⟩
        obtain ⟨_, R7⟩ : ∃ F, Kd.R i64 wn5 F o cs := Hold.row H4 2 rfl
        refine rg (r (mv z3) (r (ln Try.underlying22 rfl (R7)) (r (bi rfl rfl rfl) (r (mv rfl) ?_))))
        refine sp 30 rfl (fun h2 => ?_) (fun h2 => ?_)
        · have da8 := nx_0 (n := 12) do5
          have dc8 := nx_1 (s := ds5) (n := 12) (by omega)
          have do8 := nx_ok (n := 12) do5
          obtain ⟨dz8, hz8⟩ : ∃ z, z = (nx ds5 12).1 := ⟨_, rfl⟩
          obtain ⟨ds8, hs8⟩ : ∃ z, z = (nx ds5 12).2 := ⟨_, rfl⟩
          rw [← hz8] at da8 dc8
          rw [← hs8] at do8
          obtain ⟨F9, hF9, n9, s9, K9⟩ := Hold.front (Γ := [rB g 172 ([v, .int .i64 (ds5.pt : Int), .int .i64 ds5.mix, .int .i64 ds5.size]), rR u8 5 v ds5.code]) (Δ := [rR i64 2 o cs]) H4
          refine gy rfl rfl rfl (r (mv z0) (gy rfl rfl rfl (cl go111 (l1Next (s := ds5) (m := 12) hF9 n9 do5 (by omega)) (ac rfl (ac rfl an)) ?_)))
          rintro r wn8 ⟨er8, Hn8⟩
          rw [← hz8] at er8
          rw [← hs8] at Hn8
          subst er8
          have H5 : Hold w F wn8 [rB g 172 ([v, .int .i64 (ds8.pt : Int), .int .i64 ds8.mix, .int .i64 ds8.size]), rR u8 5 v ds8.code, rR i64 2 o cs] := Hold.call K9 Hn8
          clear H4
          clear K9 hF9 n9 s9
          clear Hn8
          refine gy rfl rfl rfl (r (bi rfl rfl rfl) (r (pk rfl rfl) (re ?_)))
          refine cp rfl (fun h3 => ?_) (fun h3 => ?_)
          · obtain ⟨_, R10⟩ : ∃ F, Kd.R i64 wn8 F o cs := Hold.row H5 2 rfl
            obtain ⟨F12, P12, n12, s12, K12⟩ := Hold.pick H5 2 rfl
            replace P12 : Kd.W i64 2 wn8 F12 o cs := P12
            refine rg (r (mv z3) (r (mv z3) (r (ln Try.underlying22 rfl (R10)) (r (sb (a := (cs.length : Int)) (b := 1) (((cs.length - 1 : Nat) : Int)) rfl rfl (by simp at *; omega)) (ixs (a := 9223372036854775807) (j := cs.length - 1) Try.underlying22 ti2 rfl P12 rfl (by simp at *; omega) (fun _ => rfl) ⟨rfl, rfl⟩ (nodup_nil n12) ?_)))))
            intro _ w11 F11 s11 A11
            have H6 : Hold w F w11 [rB g 172 ([v, .int .i64 (ds8.pt : Int), .int .i64 ds8.mix, .int .i64 ds8.size]), rR u8 5 v ds8.code, rR i64 2 o (cs.set (cs.length - 1) 9223372036854775807)] := Hold.apd K12 P12 A11 rfl
            clear H5
            clear A11 K12 P12 n12 s12 s11
            refine re (sq ?_)
            refine gen (fun ρ => ρ 3 = o ∧ True) ⟨z3, trivial⟩ ?_
            rintro ρ ⟨z3, -⟩
            refine rg (r (mv z3) (r (sa rfl) (re (rt ?_))))
            exact fin1 (v := o) Try.results110 rfl ⟨_, _, (by first | omega | (simp; omega)), do8, H6⟩
          · refine sk (sq (rg (r (mv z3) (r (sa rfl) (re (rt ?_))))))
            exact fin1 (v := o) Try.results110 rfl ⟨_, _, (by first | omega | (simp; omega)), do8, H5⟩
        · refine gn rfl rfl rfl (gn rfl rfl rfl (gn rfl rfl rfl (r (pk rfl rfl) (re (cf rfl (sk (sq (rg (r (mv z3) (r (sa rfl) (re (rt ?_))))))))))))
          exact fin1 (v := o) Try.results110 rfl ⟨_, _, (by first | omega | (simp; omega)), do5, H4⟩
    · refine gn rfl rfl rfl (gn rfl rfl rfl (gn rfl rfl rfl (r (pk rfl rfl) (re (cf rfl (sk (sq (sq ?_))))))))
      refine gen (fun ρ => ρ 0 = .pointer (some ⟨g, 0, none⟩) ∧ ρ 3 = o ∧ True) ⟨y0, y3, trivial⟩ ?_
      rintro ρ ⟨z0, z3, -⟩
      refine rg (r (mv z3) (r (ln Try.underlying22 rfl (R4)) (r (bi rfl rfl rfl) (r (mv rfl) ?_))))
      refine sp 30 rfl (fun h2 => ?_) (fun h2 => ?_)
      · have da5 := nx_0 (n := 12) ok1
        have dc5 := nx_1 (s := s1) (n := 12) (by omega)
        have do5 := nx_ok (n := 12) ok1
        obtain ⟨dz5, hz5⟩ : ∃ z, z = (nx s1 12).1 := ⟨_, rfl⟩
        obtain ⟨ds5, hs5⟩ : ∃ z, z = (nx s1 12).2 := ⟨_, rfl⟩
        rw [← hz5] at da5 dc5
        rw [← hs5] at do5
        obtain ⟨F6, hF6, n6, s6, K6⟩ := Hold.front (Γ := [rB g 172 ([v, .int .i64 (s1.pt : Int), .int .i64 s1.mix, .int .i64 s1.size]), rR u8 5 v s1.code]) (Δ := [rR i64 2 o cs]) H3
        refine gy rfl rfl rfl (r (mv z0) (gy rfl rfl rfl (cl go111 (l1Next (s := s1) (m := 12) hF6 n6 ok1 (by omega)) (ac rfl (ac rfl an)) ?_)))
        rintro r wn5 ⟨er5, Hn5⟩
        rw [← hz5] at er5
        rw [← hs5] at Hn5
        subst er5
        have H4 : Hold w F wn5 [rB g 172 ([v, .int .i64 (ds5.pt : Int), .int .i64 ds5.mix, .int .i64 ds5.size]), rR u8 5 v ds5.code, rR i64 2 o cs] := Hold.call K6 Hn5
        clear H3
        clear K6 hF6 n6 s6
        clear Hn5
        refine gy rfl rfl rfl (r (bi rfl rfl rfl) (r (pk rfl rfl) (re ?_)))
        refine cp rfl (fun h3 => ?_) (fun h3 => ?_)
        · obtain ⟨_, R7⟩ : ∃ F, Kd.R i64 wn5 F o cs := Hold.row H4 2 rfl
          obtain ⟨F9, P9, n9, s9, K9⟩ := Hold.pick H4 2 rfl
          replace P9 : Kd.W i64 2 wn5 F9 o cs := P9
          refine rg (r (mv z3) (r (mv z3) (r (ln Try.underlying22 rfl (R7)) (r (sb (a := (cs.length : Int)) (b := 1) (((cs.length - 1 : Nat) : Int)) rfl rfl (by simp at *; omega)) (ixs (a := 9223372036854775807) (j := cs.length - 1) Try.underlying22 ti2 rfl P9 rfl (by simp at *; omega) (fun _ => rfl) ⟨rfl, rfl⟩ (nodup_nil n9) ?_)))))
          intro _ w8 F8 s8 A8
          have H5 : Hold w F w8 [rB g 172 ([v, .int .i64 (ds5.pt : Int), .int .i64 ds5.mix, .int .i64 ds5.size]), rR u8 5 v ds5.code, rR i64 2 o (cs.set (cs.length - 1) 9223372036854775807)] := Hold.apd K9 P9 A8 rfl
          clear H4
          clear A8 K9 P9 n9 s9 s8
          refine re (sq ?_)
          refine gen (fun ρ => ρ 3 = o ∧ True) ⟨z3, trivial⟩ ?_
          rintro ρ ⟨z3, -⟩
          refine rg (r (mv z3) (r (sa rfl) (re (rt ?_))))
          exact fin1 (v := o) Try.results110 rfl ⟨_, _, (by first | omega | (simp; omega)), do5, H5⟩
        · refine sk (sq (rg (r (mv z3) (r (sa rfl) (re (rt ?_))))))
          exact fin1 (v := o) Try.results110 rfl ⟨_, _, (by first | omega | (simp; omega)), do5, H4⟩
      · refine gn rfl rfl rfl (gn rfl rfl rfl (gn rfl rfl rfl (r (pk rfl rfl) (re (cf rfl (sk (sq (rg (r (mv z3) (r (sa rfl) (re (rt ?_))))))))))))
        exact fin1 (v := o) Try.results110 rfl ⟨_, _, (by first | omega | (simp; omega)), ok1, H3⟩
theorem DrawPickVictim {w : World} {F : List Nat} {v : Value} {xs : List Int} (hx : u8.R w F v xs) (lx : xs.length ≤ 1000000000) (ok : ok8 xs) :
    Ret Try.prog 54 #[v] w (fun r w' => ∃ (cs : List Int) (a m : Int) (o : Value), r = .tuple #[o, .int .i64 a, .int .i64 m] ∧ cs.length ≤ 10 ∧ Hold w [] w' [rR i64 2 o cs]) := by
  refine enter Try.func54 rfl Try.ntmps54 (by rfl) (by rfl) ?_
  have H0 : Hold w [] w [] := Hold.start w
  refine sq (rg (r (sa rfl) (r (sa rfl) (r (sa rfl) (re (sq (rg (r (mv rfl) (cl go109 (l1Source (hx.t (Hold.ch H0)) lx ok) (ac rfl an) ?_)))))))))
  rintro r ws ⟨g, u, rfl, Hs1⟩
  have H1 : Hold w [] ws [rB g 172 ([u, .int .i64 ((srcOf xs).pt : Int), .int .i64 ((srcOf xs).mix), .int .i64 ((srcOf xs).size)]), rR u8 5 u ((srcOf xs).code)] := Hold.news H0 Hs1
  clear H0
  clear Hs1
  obtain ⟨F2, hF2, n2, s2, K2⟩ := Hold.front (Γ := [rB g 172 ([u, .int .i64 ((srcOf xs).pt : Int), .int .i64 ((srcOf xs).mix), .int .i64 ((srcOf xs).size)]), rR u8 5 u ((srcOf xs).code)]) (Δ := []) H1
  refine r (sa rfl) (re (sq (rg (r (mv rfl) (cl go110 (l4DrawCounts hF2 n2 (srcOf_ok ok)) (ac rfl an) ?_)))))
  rintro rv0 wd ⟨cs0, s0, hcs0, ok0, Hd⟩
  have H2 : Hold w [] wd [rB g 172 ([u, .int .i64 (s0.pt : Int), .int .i64 s0.mix, .int .i64 s0.size]), rR u8 5 u s0.code, rR i64 2 rv0 cs0] := Hold.call K2 Hd
  clear H1
  clear K2 hF2 n2 s2
  clear Hd
  refine r (sa rfl) (re (sq (sq (rg (r (sa rfl) (re (bl ?_)))))))
  refine lp (α := Nat × List Int × Src) (fun (j, cs, s1) ρ w' => ρ 5 = .pointer (some ⟨g, 0, none⟩) ∧ ρ 6 = rv0 ∧ ρ 7 = .int .i64 (j : Int) ∧ Hold w [] w' [rB g 172 ([u, .int .i64 (s1.pt : Int), .int .i64 s1.mix, .int .i64 s1.size]), rR u8 5 u s1.code, rR i64 2 rv0 cs] ∧ j ≤ cs.length ∧ cs.length = cs0.length ∧ SrcOk s1) (fun (j, cs, s1) => cs.length - j) (0, cs0, s0) ?_ ?_
  · exact ⟨rfl, rfl, rfl, H2, ⟨by omega, rfl, ok0⟩⟩
  clear H2
  rintro ⟨j, cs, s1⟩ ρ w503 ⟨y5, y6, y7, H3, ⟨hj, hcs, ok1⟩⟩
  obtain ⟨_, R3⟩ : ∃ F, Kd.R i64 w503 F rv0 cs := Hold.row H3 2 rfl
  refine sq (sq (rg (r (mv y7) (r (mv y6) (r (ln Try.underlying22 rfl (R3)) (r (bi rfl rfl rfl) (re ?_)))))))
  refine cp rfl (fun h => ?_) (fun h => ?_)
  · have hj' : j < cs.length := by omega
    refine sk (sq (bl (sq (rg (r (mv y6) (r (mv y7) ?_))))))
    obtain ⟨c21_4, ad21_4, k21_4, e21_4, p21_4⟩ := Kd.R.place R3 j (hj')
    refine r (ix (j := j) Try.underlying22 ti2 e21_4 rfl (hj')) (r (ld Try.underlying2 rfl rfl p21_4.cell) (r (bi rfl rfl rfl) (r (mv rfl) ?_)))
    refine sp 24 rfl (fun h0 => ?_) (fun h0 => ?_)
    · have da5 := nx_0 (n := 2) ok1
      have dc5 := nx_1 (s := s1) (n := 2) (by omega)
      have do5 := nx_ok (n := 2) ok1
      obtain ⟨dz5, hz5⟩ : ∃ z, z = (nx s1 2).1 := ⟨_, rfl⟩
      obtain ⟨ds5, hs5⟩ : ∃ z, z = (nx s1 2).2 := ⟨_, rfl⟩
      rw [← hz5] at da5 dc5
      rw [← hs5] at do5
      obtain ⟨F6, hF6, n6, s6, K6⟩ := Hold.front (Γ := [rB g 172 ([u, .int .i64 (s1.pt : Int), .int .i64 s1.mix, .int .i64 s1.size]), rR u8 5 u s1.code]) (Δ := [rR i64 2 rv0 cs]) H3
      refine gy rfl rfl rfl (r (mv y5) (gy rfl rfl rfl (cl go111 (l1Next (s := s1) (m := 2) hF6 n6 ok1 (by omega)) (ac rfl (ac rfl an)) ?_)))
      rintro r wn5 ⟨er5, Hn5⟩
      rw [← hz5] at er5
      rw [← hs5] at Hn5
      subst er5
      have H4 : Hold w [] wn5 [rB g 172 ([u, .int .i64 (ds5.pt : Int), .int .i64 ds5.mix, .int .i64 ds5.size]), rR u8 5 u ds5.code, rR i64 2 rv0 cs] := Hold.call K6 Hn5
      clear H3
      clear K6 hF6 n6 s6
      clear Hn5
      refine gy rfl rfl rfl (r (bi rfl rfl rfl) (r (pk rfl rfl) (re ?_)))
      refine cp rfl (fun h2 => ?_) (fun h2 => ?_)
      · refine gen (fun ρ => ρ 5 = .pointer (some ⟨g, 0, none⟩) ∧ ρ 6 = rv0 ∧ ρ 7 = .int .i64 (j : Int) ∧ True) ⟨y5, y6, y7, trivial⟩ ?_
        rintro ρ ⟨z5, z6, z7, -⟩
        obtain ⟨F8, P8, n8, s8, K8⟩ := Hold.pick H4 2 rfl
        replace P8 : Kd.W i64 2 wn5 F8 rv0 cs := P8
        refine rg (r (mv z6) (r (mv z7) (ixs (a := 3) (j := j) Try.underlying22 ti2 rfl P8 rfl hj' (fun _ => rfl) ⟨rfl, rfl⟩ (nodup_nil n8) ?_)))
        intro _ w7 F7 s7 A7
        have H5 : Hold w [] w7 [rB g 172 ([u, .int .i64 (ds5.pt : Int), .int .i64 ds5.mix, .int .i64 ds5.size]), rR u8 5 u ds5.code, rR i64 2 rv0 (cs.set j 3)] := Hold.apd K8 P8 A7 rfl
        clear H4
        clear A7 K8 P8 n8 s8 s7
        refine re (be (rg (r (mv z7) (r (ad (a := (j : Int)) (b := 1) ((j : Int) + 1) rfl rfl (by omega)) (r (sa rfl) (re ?_))))))
        exact ag (j + 1, cs.set j 3, ds5) ⟨z5, z6, rfl, H5, ⟨by simp; omega, by simp; omega, do5⟩⟩ (by simp; omega)
      · refine sk (be ?_)
        refine gen (fun ρ => ρ 5 = .pointer (some ⟨g, 0, none⟩) ∧ ρ 6 = rv0 ∧ ρ 7 = .int .i64 (j : Int) ∧ True) ⟨y5, y6, y7, trivial⟩ ?_
        rintro ρ ⟨z5, z6, z7, -⟩
        refine rg (r (mv z7) (r (ad (a := (j : Int)) (b := 1) ((j : Int) + 1) rfl rfl (by omega)) (r (sa rfl) (re ?_))))
        exact ag (j + 1, cs, ds5) ⟨z5, z6, rfl, H4, ⟨by omega, by omega, do5⟩⟩ (by first | omega | (dsimp only; omega))
    · refine gn rfl rfl rfl (gn rfl rfl rfl (gn rfl rfl rfl (r (pk rfl rfl) (re (cf rfl (sk (be ?_)))))))
      refine gen (fun ρ => ρ 5 = .pointer (some ⟨g, 0, none⟩) ∧ ρ 6 = rv0 ∧ ρ 7 = .int .i64 (j : Int) ∧ True) ⟨y5, y6, y7, trivial⟩ ?_
      rintro ρ ⟨z5, z6, z7, -⟩
      refine rg (r (mv z7) (r (ad (a := (j : Int)) (b := 1) ((j : Int) + 1) rfl rfl (by omega)) (r (sa rfl) (re ?_))))
      exact ag (j + 1, cs, s1) ⟨z5, z6, rfl, H3, ⟨by omega, by omega, ok1⟩⟩ (by first | omega | (dsimp only; omega))
  · have da4 := nx_0 (n := 5) ok1
    have dc4 := nx_1 (s := s1) (n := 5) (by omega)
    have do4 := nx_ok (n := 5) ok1
    obtain ⟨dz4, hz4⟩ : ∃ z, z = (nx s1 5).1 := ⟨_, rfl⟩
    obtain ⟨ds4, hs4⟩ : ∃ z, z = (nx s1 5).2 := ⟨_, rfl⟩
    rw [← hz4] at da4 dc4
    rw [← hs4] at do4
    have da5 := nx_0 (n := 16) do4
    have dc5 := nx_1 (s := ds4) (n := 16) (by omega)
    have do5 := nx_ok (n := 16) do4
    obtain ⟨dz5, hz5⟩ : ∃ z, z = (nx ds4 16).1 := ⟨_, rfl⟩
    obtain ⟨ds5, hs5⟩ : ∃ z, z = (nx ds4 16).2 := ⟨_, rfl⟩
    rw [← hz5] at da5 dc5
    rw [← hs5] at do5
    obtain ⟨F6, hF6, n6, s6, K6⟩ := Hold.front (Γ := [rB g 172 ([u, .int .i64 (s1.pt : Int), .int .i64 s1.mix, .int .i64 s1.size]), rR u8 5 u s1.code]) (Δ := [rR i64 2 rv0 cs]) H3
    refine ex rfl (sq (rg (r (mv y5) (cl go111 (l1Next (s := s1) (m := 5) hF6 n6 ok1 (by omega)) (ac rfl (ac rfl an)) ?_))))
    rintro r wn4 ⟨er4, Hn4⟩
    rw [← hz4] at er4
    rw [← hs4] at Hn4
    subst er4
    have H4 : Hold w [] wn4 [rB g 172 ([u, .int .i64 (ds4.pt : Int), .int .i64 ds4.mix, .int .i64 ds4.size]), rR u8 5 u ds4.code, rR i64 2 rv0 cs] := Hold.call K6 Hn4
    clear H3
    clear K6 hF6 n6 s6
    clear Hn4
    obtain ⟨F7, hF7, n7, s7, K7⟩ := Hold.front (Γ := [rB g 172 ([u, .int .i64 (ds4.pt : Int), .int .i64 ds4.mix, .int .i64 ds4.size]), rR u8 5 u ds4.code]) (Δ := [rR i64 2 rv0 cs]) H4
    refine r (ad (a := 1) (b := dz4) (1 + dz4) rfl rfl (by omega)) (r (sa rfl) (re (sq (sq (rg (r (mv y5) (cl go111 (l1Next (s := ds4) (m := 16) hF7 n7 do4 (by omega)) (ac rfl (ac rfl an)) ?_)))))))
    rintro r wn5 ⟨er5, Hn5⟩
    rw [← hz5] at er5
    rw [← hs5] at Hn5
    subst er5
    have H5 : Hold w [] wn5 [rB g 172 ([u, .int .i64 (ds5.pt : Int), .int .i64 ds5.mix, .int .i64 ds5.size]), rR u8 5 u ds5.code, rR i64 2 rv0 cs] := Hold.call K7 Hn5
    clear H4
    clear K7 hF7 n7 s7
    clear Hn5
    refine r (bi rfl rfl rfl) (re ?_)
    refine cp rfl (fun h3 => ?_) (fun h3 => ?_)
    · have da8 := nx_0 (n := 2) do5
      have dc8 := nx_1 (s := ds5) (n := 2) (by omega)
      have do8 := nx_ok (n := 2) do5
      obtain ⟨dz8, hz8⟩ : ∃ z, z = (nx ds5 2).1 := ⟨_, rfl⟩
      obtain ⟨ds8, hs8⟩ : ∃ z, z = (nx ds5 2).2 := ⟨_, rfl⟩
      rw [← hz8] at da8 dc8
      rw [← hs8] at do8
      refine gen (fun ρ => ρ 5 = .pointer (some ⟨g, 0, none⟩) ∧ ρ 6 = rv0 ∧ ρ 8 = .int .i64 (1 + dz4) ∧ True) ⟨y5, y6, rfl, trivial⟩ ?_
      rintro ρ ⟨z5, z6, z8, -⟩
      obtain ⟨F9, hF9, n9, s9, K9⟩ := Hold.front (Γ := [rB g 172 ([u, .int .i64 (ds5.pt : Int), .int .i64 ds5.mix, .int .i64 ds5.size]), rR u8 5 u ds5.code]) (Δ := [rR i64 2 rv0 cs]) H5
      refine rg (r (mv z5) (cl go111 (l1Next (s := ds5) (m := 2) hF9 n9 do5 (by omega)) (ac rfl (ac rfl an)) ?_))
      rintro r wn8 ⟨er8, Hn8⟩
      rw [← hz8] at er8
      rw [← hs8] at Hn8
      subst er8
      have H6 : Hold w [] wn8 [rB g 172 ([u, .int .i64 (ds8.pt : Int), .int .i64 ds8.mix, .int .i64 ds8.size]), rR u8 5 u ds8.code, rR i64 2 rv0 cs] := Hold.call K9 Hn8
      clear H5
      clear K9 hF9 n9 s9
      clear Hn8
      refine r (ml (a := 9223372036854775807) (b := dz8) (9223372036854775807 * dz8) rfl rfl (by omega)) (r (sa rfl) (re (sq (rg (r (mv z6) (r (mv z5) ?_))))))
      have da10 := nx_0 (n := 10) do8
      have dc10 := nx_1 (s := ds8) (n := 10) (by omega)
      have do10 := nx_ok (n := 10) do8
      obtain ⟨dz10, hz10⟩ : ∃ z, z = (nx ds8 10).1 := ⟨_, rfl⟩
      obtain ⟨ds10, hs10⟩ : ∃ z, z = (nx ds8 10).2 := ⟨_, rfl⟩
      rw [← hz10] at da10 dc10
      rw [← hs10] at do10
      obtain ⟨F11, hF11, n11, s11, K11⟩ := Hold.front (Γ := [rB g 172 ([u, .int .i64 (ds8.pt : Int), .int .i64 ds8.mix, .int .i64 ds8.size]), rR u8 5 u ds8.code]) (Δ := [rR i64 2 rv0 cs]) H6
      refine cl go111 (l1Next (s := ds8) (m := 10) hF11 n11 do8 (by omega)) (ac rfl (ac rfl an)) ?_
      rintro r wn10 ⟨er10, Hn10⟩
      rw [← hz10] at er10
      rw [← hs10] at Hn10
      subst er10
      have H7 : Hold w [] wn10 [rB g 172 ([u, .int .i64 (ds10.pt : Int), .int .i64 ds10.mix, .int .i64 ds10.size]), rR u8 5 u ds10.code, rR i64 2 rv0 cs] := Hold.call K11 Hn10
      clear H6
      clear K11 hF11 n11 s11
      clear Hn10
      refine r (sb (a := dz10) (b := 2) (dz10 - 2) rfl rfl (by omega)) (r (mv rfl) (r (sa rfl) (r (sa rfl) (r (sa rfl) (re (rt ?_))))))
      have H8 : Hold w [] wn10 [rR i64 2 rv0 cs] := (show Hold w [] wn10 ([rR i64 2 rv0 cs] ++ [rB g 172 ([u, .int .i64 (ds10.pt : Int), .int .i64 ds10.mix, .int .i64 ds10.size]), rR u8 5 u ds10.code]) from Hold.re H7 [2, 0, 1] (by kernel_rfl) (by rfl)).drop
      clear H7
      exact fin3 (v := rv0) (v' := .int .i64 (dz10 - 2)) (v2 := .int .i64 (9223372036854775807 * dz8)) Try.results54 rfl rfl rfl ⟨_, _, _, _, rfl, by omega, H8⟩
    · have da8 := nx_0 (n := 10) do5
      have dc8 := nx_1 (s := ds5) (n := 10) (by omega)
      have do8 := nx_ok (n := 10) do5
      obtain ⟨dz8, hz8⟩ : ∃ z, z = (nx ds5 10).1 := ⟨_, rfl⟩
      obtain ⟨ds8, hs8⟩ : ∃ z, z = (nx ds5 10).2 := ⟨_, rfl⟩
      rw [← hz8] at da8 dc8
      rw [← hs8] at do8
      refine sk (sq ?_)
      refine gen (fun ρ => ρ 5 = .pointer (some ⟨g, 0, none⟩) ∧ ρ 6 = rv0 ∧ ρ 8 = .int .i64 (1 + dz4) ∧ True) ⟨y5, y6, rfl, trivial⟩ ?_
      rintro ρ ⟨z5, z6, z8, -⟩
      obtain ⟨F9, hF9, n9, s9, K9⟩ := Hold.front (Γ := [rB g 172 ([u, .int .i64 (ds5.pt : Int), .int .i64 ds5.mix, .int .i64 ds5.size]), rR u8 5 u ds5.code]) (Δ := [rR i64 2 rv0 cs]) H5
      refine rg (r (mv z6) (r (mv z5) (cl go111 (l1Next (s := ds5) (m := 10) hF9 n9 do5 (by omega)) (ac rfl (ac rfl an)) ?_)))
      rintro r wn8 ⟨er8, Hn8⟩
      rw [← hz8] at er8
      rw [← hs8] at Hn8
      subst er8
      have H6 : Hold w [] wn8 [rB g 172 ([u, .int .i64 (ds8.pt : Int), .int .i64 ds8.mix, .int .i64 ds8.size]), rR u8 5 u ds8.code, rR i64 2 rv0 cs] := Hold.call K9 Hn8
      clear H5
      clear K9 hF9 n9 s9
      clear Hn8
      refine r (sb (a := dz8) (b := 2) (dz8 - 2) rfl rfl (by omega)) (r (mv z8) (r (sa rfl) (r (sa rfl) (r (sa rfl) (re (rt ?_))))))
      have H7 : Hold w [] wn8 [rR i64 2 rv0 cs] := (show Hold w [] wn8 ([rR i64 2 rv0 cs] ++ [rB g 172 ([u, .int .i64 (ds8.pt : Int), .int .i64 ds8.mix, .int .i64 ds8.size]), rR u8 5 u ds8.code]) from Hold.re H6 [2, 0, 1] (by kernel_rfl) (by rfl)).drop
      clear H6
      exact fin3 (v := rv0) (v' := .int .i64 (dz8 - 2)) (v2 := .int .i64 (1 + dz4)) Try.results54 rfl rfl rfl ⟨_, _, _, _, rfl, by omega, H7⟩
theorem l2DrawTable {w : World} {F : List Nat} {g : Nat} {v : Value} {s : Src} (h : Hs w [rB g 172 [v, .int .i64 (s.pt : Int), .int .i64 s.mix, .int .i64 s.size], rR u8 5 v s.code] F) (nd : F.Nodup) (ok : SrcOk s) : Ret Try.prog 112 #[.pointer (some ⟨g, 0, none⟩)] w (fun r w' => ∃ (t : List (Int × Bool)) (s' : Src), t.length ≤ 2000 ∧ SrcOk s' ∧ Hold w F w' [rB g 172 [v, .int .i64 (s'.pt : Int), .int .i64 s'.mix, .int .i64 s'.size], rR u8 5 v s'.code, rR kE 70 r t]) := by
  refine enter Try.func112 rfl Try.ntmps112 (by rfl) (by rfl) ?_
  have H0 : Hold w F w [rB g 172 ([v, .int .i64 (s.pt : Int), .int .i64 s.mix, .int .i64 s.size]), rR u8 5 v s.code] := Hold.begin h nd
  have da1 := nx_0 (n := 12) ok
  have dc1 := nx_1 (s := s) (n := 12) (by omega)
  have do1 := nx_ok (n := 12) ok
  obtain ⟨dz1, hz1⟩ : ∃ z, z = (nx s 12).1 := ⟨_, rfl⟩
  obtain ⟨ds1, hs1⟩ : ∃ z, z = (nx s 12).2 := ⟨_, rfl⟩
  rw [← hz1] at da1 dc1
  rw [← hs1] at do1
  obtain ⟨m, hm1⟩ : ∃ m : Nat, dz1 = (m : Int) := ⟨dz1.toNat, by omega⟩
  refine sq (rg (r (sa rfl) (re (sq (rg (ef (xbs0 (dk := kE) Try.underlying57 ti70) ?_))))))
  rintro v2 w2 N2
  have H1 : Hold w F w2 [rB g 172 ([v, .int .i64 (s.pt : Int), .int .i64 s.mix, .int .i64 s.size]), rR u8 5 v s.code, rR kE 70 v2 ([])] := Hold.newr H0 N2
  clear H0
  obtain ⟨F3, hF3, n3, s3, K3⟩ := Hold.front (Γ := [rB g 172 ([v, .int .i64 (s.pt : Int), .int .i64 s.mix, .int .i64 s.size]), rR u8 5 v s.code]) (Δ := [rR kE 70 v2 ([])]) H1
  refine r (sa rfl) (re (sq (sq (rg (r (mv rfl) (cl go111 (l1Next (s := s) (m := 12) hF3 n3 ok (by omega)) (ac rfl (ac rfl an)) ?_))))))
  rintro r wn1 ⟨er1, Hn1⟩
  rw [← hz1, hm1] at er1
  rw [← hs1] at Hn1
  subst er1
  have H2 : Hold w F wn1 [rB g 172 ([v, .int .i64 (ds1.pt : Int), .int .i64 ds1.mix, .int .i64 ds1.size]), rR u8 5 v ds1.code, rR kE 70 v2 ([])] := Hold.call K3 Hn1
  clear H1
  clear K3 hF3 n3 s3
  clear Hn1
  refine r (sa rfl) (re (bl ?_))
  refine lp (α := Nat × Value × List (Int × Bool) × Src) (fun (j, o, t, s1) ρ w' => ρ 0 = .pointer (some ⟨g, 0, none⟩) ∧ ρ 3 = o ∧ ρ 4 = .int .i64 ((m : Int) - (j : Int)) ∧ Hold w F w' [rB g 172 ([v, .int .i64 (s1.pt : Int), .int .i64 s1.mix, .int .i64 s1.size]), rR u8 5 v s1.code, rR kE 70 o t] ∧ j ≤ m ∧ t.length = j ∧ SrcOk s1) (fun (j, o, t, s1) => m - j) (0, v2, [], ds1) ?_ ?_
  · exact ⟨rfl, rfl, (show _ = Value.int .i64 (m : Int) from rfl).trans (by simp), H2, ⟨by omega, rfl, do1⟩⟩
  clear H2
  rintro ⟨j, o, t, s1⟩ ρ w503 ⟨y0, y3, y4, H3, ⟨hj, hcs, ok1⟩⟩
  refine sq (sq (rg (r (mv y4) (r (bi rfl rfl rfl) (re ?_)))))
  refine cp rfl (fun h => ?_) (fun h => ?_)
  · have da4 := nx_0 (n := 40) ok1
    have dc4 := nx_1 (s := s1) (n := 40) (by omega)
    have do4 := nx_ok (n := 40) ok1
    obtain ⟨dz4, hz4⟩ : ∃ z, z = (nx s1 40).1 := ⟨_, rfl⟩
    obtain ⟨ds4, hs4⟩ : ∃ z, z = (nx s1 40).2 := ⟨_, rfl⟩
    rw [← hz4] at da4 dc4
    rw [← hs4] at do4
    have da5 := nx_0 (n := 3) do4
    have dc5 := nx_1 (s := ds4) (n := 3) (by omega)
    have do5 := nx_ok (n := 3) do4
    obtain ⟨dz5, hz5⟩ : ∃ z, z = (nx ds4 3).1 := ⟨_, rfl⟩
    obtain ⟨ds5, hs5⟩ : ∃ z, z = (nx ds4 3).2 := ⟨_, rfl⟩
    rw [← hz5] at da5 dc5
    rw [← hs5] at do5
    obtain ⟨F6, hF6, n6, s6, K6⟩ := Hold.front (Γ := [rB g 172 ([v, .int .i64 (s1.pt : Int), .int .i64 s1.mix, .int .i64 s1.size]), rR u8 5 v s1.code]) (Δ := [rR kE 70 o t]) H3
    refine sk (sq (bl (sq (rg (r (mv y0) (cl go111 (l1Next (s := s1) (m := 40) hF6 n6 ok1 (by omega)) (ac rfl (ac rfl an)) ?_))))))
    rintro r wn4 ⟨er4, Hn4⟩
    rw [← hz4] at er4
    rw [← hs4] at Hn4
    subst er4
    have H4 : Hold w F wn4 [rB g 172 ([v, .int .i64 (ds4.pt : Int), .int .i64 ds4.mix, .int .i64 ds4.size]), rR u8 5 v ds4.code, rR kE 70 o t] := Hold.call K6 Hn4
    clear H3
    clear K6 hF6 n6 s6
    clear Hn4
    obtain ⟨F7, hF7, n7, s7, K7⟩ := Hold.front (Γ := [rB g 172 ([v, .int .i64 (ds4.pt : Int), .int .i64 ds4.mix, .int .i64 ds4.size]), rR u8 5 v ds4.code]) (Δ := [rR kE 70 o t]) H4
    refine r (mv y0) (cl go111 (l1Next (s := ds4) (m := 3) hF7 n7 do4 (by omega)) (ac rfl (ac rfl an)) ?_)
    rintro r wn5 ⟨er5, Hn5⟩
    rw [← hz5] at er5
    rw [← hs5] at Hn5
    subst er5
    have H5 : Hold w F wn5 [rB g 172 ([v, .int .i64 (ds5.pt : Int), .int .i64 ds5.mix, .int .i64 ds5.size]), rR u8 5 v ds5.code, rR kE 70 o t] := Hold.call K7 Hn5
    clear H4
    clear K7 hF7 n7 s7
    clear Hn5
    refine r (bi rfl rfl rfl) (r (bd (r := [.int .i64 dz4, .bool (decide (dz5 = 0))]) ti70 pl70 (pc rfl (cel1 rfl) (pc rfl (cel1 rfl) pn)) rfl) (ef (xal ti70) ?_))
    rintro _ w8 ⟨g5, e8, rfl, -, b8, c8⟩
    have H6 : Hold w F w8 [rB g 172 ([v, .int .i64 (ds5.pt : Int), .int .i64 ds5.mix, .int .i64 ds5.size]), rR u8 5 v ds5.code, rR kE 70 o t, rB g5 70 ([.int .i64 0, .bool false])] := Hold.newB H5 e8 b8 c8
    clear H5
    clear e8 b8 c8
    have b9 : B w8 g5 70 ([.int .i64 0, .bool false]) := Hold.blk H6 3 rfl
    refine ef0 (xst (vs := [.int .i64 dz4, .bool (decide (dz5 = 0))]) ti70 rfl rfl rfl b9 rfl (Nat.le_of_ble_eq_true rfl) (one_all rfl)) ?_
    rintro w10 ⟨-, b10, c10⟩
    have H7 : Hold w F w10 [rB g 172 ([v, .int .i64 (ds5.pt : Int), .int .i64 ds5.mix, .int .i64 ds5.size]), rR u8 5 v ds5.code, rR kE 70 o t, rB g5 70 ([.int .i64 dz4, .bool (decide (dz5 = 0))])] := Hold.setB H6 3 rfl b10 c10 rfl
    clear H6
    clear b10 c10
    have b11 : B w10 g5 70 ([.int .i64 dz4, .bool (decide (dz5 = 0))]) := Hold.blk H7 3 rfl
    refine re (sq (sq (rg (r (fa Try.underlying70 rfl ti2 rfl rfl) (r (ldb Try.underlying2 rfl rfl b11 rfl) (r (bi rfl rfl rfl) (re ?_)))))))
    refine cp rfl (fun h2 => ?_) (fun h2 => ?_)
    · refine gen (fun ρ => ρ 0 = .pointer (some ⟨g, 0, none⟩) ∧ ρ 3 = o ∧ ρ 4 = .int .i64 ((m : Int) - (j : Int)) ∧ ρ 5 = .pointer (some ⟨g5, 0, none⟩) ∧ True) ⟨y0, y3, y4, rfl, trivial⟩ ?_
      rintro ρ ⟨z0, z3, z4, z5, -⟩
      refine rg (r (bd (r := [.int .i64 0, .bool false]) ti70 pl70 pn rfl) (ef0 (xst (vs := [.int .i64 0, .bool false]) ti70 z5 rfl rfl b11 rfl (Nat.le_of_ble_eq_true rfl) (one_all rfl)) ?_))
      rintro w12 ⟨-, b12, c12⟩
      have H8 : Hold w F w12 [rB g 172 ([v, .int .i64 (ds5.pt : Int), .int .i64 ds5.mix, .int .i64 ds5.size]), rR u8 5 v ds5.code, rR kE 70 o t, rB g5 70 ([.int .i64 0, .bool false])] := Hold.setB H7 3 rfl b12 c12 rfl
      clear H7
      clear b12 c12
      refine re (sq (sq (rg (r (mv z0) ?_))))
      have da13 := nx_0 (n := 30) do5
      have dc13 := nx_1 (s := ds5) (n := 30) (by omega)
      have do13 := nx_ok (n := 30) do5
      obtain ⟨dz13, hz13⟩ : ∃ z, z = (nx ds5 30).1 := ⟨_, rfl⟩
      obtain ⟨ds13, hs13⟩ : ∃ z, z = (nx ds5 30).2 := ⟨_, rfl⟩
      rw [← hz13] at da13 dc13
      rw [← hs13] at do13
      obtain ⟨F14, hF14, n14, s14, K14⟩ := Hold.front (Γ := [rB g 172 ([v, .int .i64 (ds5.pt : Int), .int .i64 ds5.mix, .int .i64 ds5.size]), rR u8 5 v ds5.code]) (Δ := [rR kE 70 o t, rB g5 70 ([.int .i64 0, .bool false])]) H8
      refine cl go111 (l1Next (s := ds5) (m := 30) hF14 n14 do5 (by omega)) (ac rfl (ac rfl an)) ?_
      rintro r wn13 ⟨er13, Hn13⟩
      rw [← hz13] at er13
      rw [← hs13] at Hn13
      subst er13
      have H9 : Hold w F wn13 [rB g 172 ([v, .int .i64 (ds13.pt : Int), .int .i64 ds13.mix, .int .i64 ds13.size]), rR u8 5 v ds13.code, rR kE 70 o t, rB g5 70 ([.int .i64 0, .bool false])] := Hold.call K14 Hn13
      clear H8
      clear K14 hF14 n14 s14
      clear Hn13
      refine r (bi rfl rfl rfl) (re ?_)
      refine cp rfl (fun h3 => ?_) (fun h3 => ?_)
      · have da15 := nx_0 (n := 2) do13
        have dc15 := nx_1 (s := ds13) (n := 2) (by omega)
        have do15 := nx_ok (n := 2) do13
        obtain ⟨dz15, hz15⟩ : ∃ z, z = (nx ds13 2).1 := ⟨_, rfl⟩
        obtain ⟨ds15, hs15⟩ : ∃ z, z = (nx ds13 2).2 := ⟨_, rfl⟩
        rw [← hz15] at da15 dc15
        rw [← hs15] at do15
        obtain ⟨F16, hF16, n16, s16, K16⟩ := Hold.front (Γ := [rB g 172 ([v, .int .i64 (ds13.pt : Int), .int .i64 ds13.mix, .int .i64 ds13.size]), rR u8 5 v ds13.code]) (Δ := [rR kE 70 o t, rB g5 70 ([.int .i64 0, .bool false])]) H9
        refine rg (r (mv z0) (cl go111 (l1Next (s := ds13) (m := 2) hF16 n16 do13 (by omega)) (ac rfl (ac rfl an)) ?_))
        rintro r wn15 ⟨er15, Hn15⟩
        rw [← hz15] at er15
        rw [← hs15] at Hn15
        subst er15
        have H10 : Hold w F wn15 [rB g 172 ([v, .int .i64 (ds15.pt : Int), .int .i64 ds15.mix, .int .i64 ds15.size]), rR u8 5 v ds15.code, rR kE 70 o t, rB g5 70 ([.int .i64 0, .bool false])] := Hold.call K16 Hn15
        clear H9
        clear K16 hF16 n16 s16
        clear Hn15
        have b17 : B wn15 g5 70 ([.int .i64 0, .bool false]) := Hold.blk H10 3 rfl
        refine r (ad (a := 32767) (b := dz15) (32767 + dz15) rfl rfl (by omega)) (r (fa Try.underlying70 rfl ti2 rfl z5) (ef0 (xst (vs := [.int .i64 (32767 + dz15)]) ti2 rfl rfl (cel1 rfl) b17 rfl (Nat.le_of_ble_eq_true rfl) (one_all rfl)) ?_))
        rintro w18 ⟨-, b18, c18⟩
        have H11 : Hold w F w18 [rB g 172 ([v, .int .i64 (ds15.pt : Int), .int .i64 ds15.mix, .int .i64 ds15.size]), rR u8 5 v ds15.code, rR kE 70 o t, rB g5 70 ([.int .i64 (32767 + dz15), .bool false])] := Hold.setB H10 3 rfl b18 c18 rfl
        clear H10
        clear b18 c18
        have b19 : B w18 g5 70 ([.int .i64 (32767 + dz15), .bool false]) := Hold.blk H11 3 rfl
        refine re (rg (r (mv z3) (r (lab [.int .i64 (32767 + dz15), .bool false] Try.underlying70 rfl ti70 z5 b19 rfl rfl) (ef (xbs1 (cs := [.int .i64 (32767 + dz15), .bool false]) Try.underlying57 ti70 rfl rfl rfl rfl rfl) ?_))))
        rintro _ w20 ⟨g33, e20, rfl, -, b20, c20⟩
        have H12 : Hold w F w20 [rB g 172 ([v, .int .i64 (ds15.pt : Int), .int .i64 ds15.mix, .int .i64 ds15.size]), rR u8 5 v ds15.code, rR kE 70 o t, rB g5 70 ([.int .i64 (32767 + dz15), .bool false]), rB g33 70 ([.int .i64 (32767 + dz15), .bool false])] := Hold.newB H11 e20 b20 c20
        clear H11
        clear e20 b20 c20
        have b22 : B w20 g33 70 ([.int .i64 (32767 + dz15), .bool false]) := Hold.blk H12 4 rfl
        obtain ⟨F23, P23, n23, s23, K23⟩ := Hold.pick H12 2 rfl
        replace P23 : Kd.W kE 70 w20 F23 o t := P23
        refine ef (xapb (ys := [(32767 + dz15, false)]) Try.underlying57 ti70 rfl rfl rfl P23 b22 (els_one (R := Kd.O kE _) (show Kd.O kE _ [] (32767 + dz15, false) _ from ⟨[], [], [_], [_], rfl, rfl, ⟨rfl, rfl⟩, ⟨rfl, rfl⟩⟩)) (nodup_nil n23) (by simp; omega)) ?_
        rintro v34_21 w21 ⟨F21, A21⟩
        have H13 : Hold w F w21 [rB g 172 ([v, .int .i64 (ds15.pt : Int), .int .i64 ds15.mix, .int .i64 ds15.size]), rR u8 5 v ds15.code, rR kE 70 v34_21 (t ++ [(32767 + dz15, false)]), rB g5 70 ([.int .i64 (32767 + dz15), .bool false]), rB g33 70 ([.int .i64 (32767 + dz15), .bool false])] := Hold.apd K23 P23 A21 rfl
        clear H12
        clear A21 K23 P23 n23 s23
        refine r (sa rfl) (re (be ?_))
        refine gen (fun ρ => ρ 0 = .pointer (some ⟨g, 0, none⟩) ∧ ρ 3 = v34_21 ∧ ρ 4 = .int .i64 ((m : Int) - (j : Int)) ∧ True) ⟨z0, rfl, z4, trivial⟩ ?_
        rintro ρ ⟨z0, z3, z4, -⟩
        refine rg (r (mv z4) (r (sb (a := (m : Int) - (j : Int)) (b := 1) ((m : Int) - ((j + 1 : Nat) : Int)) rfl rfl (by omega)) (r (sa rfl) (re ?_))))
        have H14 : Hold w F w21 [rB g 172 ([v, .int .i64 (ds15.pt : Int), .int .i64 ds15.mix, .int .i64 ds15.size]), rR u8 5 v ds15.code, rR kE 70 v34_21 (t ++ [(32767 + dz15, false)])] := (show Hold w F w21 ([rB g 172 ([v, .int .i64 (ds15.pt : Int), .int .i64 ds15.mix, .int .i64 ds15.size]), rR u8 5 v ds15.code, rR kE 70 v34_21 (t ++ [(32767 + dz15, false)])] ++ [rB g5 70 ([.int .i64 (32767 + dz15), .bool false]), rB g33 70 ([.int .i64 (32767 + dz15), .bool false])]) from Hold.re H13 [0, 1, 2, 3, 4] (by kernel_rfl) (by rfl)).drop
        clear H13
        exact ag (j + 1, v34_21, t ++ [(32767 + dz15, false)], ds15) ⟨z0, z3, rfl, H14, ⟨by omega, by simp; omega, do15⟩⟩ (by first | omega | (dsimp only; omega))
      · have b15 : B wn13 g5 70 ([.int .i64 0, .bool false]) := Hold.blk H9 3 rfl
        refine sk (rg (r (mv z3) (r (lab [.int .i64 0, .bool false] Try.underlying70 rfl ti70 z5 b15 rfl rfl) (ef (xbs1 (cs := [.int .i64 0, .bool false]) Try.underlying57 ti70 rfl rfl rfl rfl rfl) ?_))))
        rintro _ w16 ⟨g33, e16, rfl, -, b16, c16⟩
        have H10 : Hold w F w16 [rB g 172 ([v, .int .i64 (ds13.pt : Int), .int .i64 ds13.mix, .int .i64 ds13.size]), rR u8 5 v ds13.code, rR kE 70 o t, rB g5 70 ([.int .i64 0, .bool false]), rB g33 70 ([.int .i64 0, .bool false])] := Hold.newB H9 e16 b16 c16
        clear H9
        clear e16 b16 c16
        have b18 : B w16 g33 70 ([.int .i64 0, .bool false]) := Hold.blk H10 4 rfl
        obtain ⟨F19, P19, n19, s19, K19⟩ := Hold.pick H10 2 rfl
        replace P19 : Kd.W kE 70 w16 F19 o t := P19
        refine ef (xapb (ys := [(0, false)]) Try.underlying57 ti70 rfl rfl rfl P19 b18 (els_one (R := Kd.O kE _) (show Kd.O kE _ [] (0, false) _ from ⟨[], [], [_], [_], rfl, rfl, ⟨rfl, rfl⟩, ⟨rfl, rfl⟩⟩)) (nodup_nil n19) (by simp; omega)) ?_
        rintro v34_17 w17 ⟨F17, A17⟩
        have H11 : Hold w F w17 [rB g 172 ([v, .int .i64 (ds13.pt : Int), .int .i64 ds13.mix, .int .i64 ds13.size]), rR u8 5 v ds13.code, rR kE 70 v34_17 (t ++ [(0, false)]), rB g5 70 ([.int .i64 0, .bool false]), rB g33 70 ([.int .i64 0, .bool false])] := Hold.apd K19 P19 A17 rfl
        clear H10
        clear A17 K19 P19 n19 s19
        refine r (sa rfl) (re (be (rg (r (mv z4) (r (sb (a := (m : Int) - (j : Int)) (b := 1) ((m : Int) - ((j + 1 : Nat) : Int)) rfl rfl (by omega)) (r (sa rfl) (re ?_)))))))
        have H12 : Hold w F w17 [rB g 172 ([v, .int .i64 (ds13.pt : Int), .int .i64 ds13.mix, .int .i64 ds13.size]), rR u8 5 v ds13.code, rR kE 70 v34_17 (t ++ [(0, false)])] := (show Hold w F w17 ([rB g 172 ([v, .int .i64 (ds13.pt : Int), .int .i64 ds13.mix, .int .i64 ds13.size]), rR u8 5 v ds13.code, rR kE 70 v34_17 (t ++ [(0, false)])] ++ [rB g5 70 ([.int .i64 0, .bool false]), rB g33 70 ([.int .i64 0, .bool false])]) from Hold.re H11 [0, 1, 2, 3, 4] (by kernel_rfl) (by rfl)).drop
        clear H11
        exact ag (j + 1, v34_17, t ++ [(0, false)], ds13) ⟨z0, rfl, rfl, H12, ⟨by omega, by simp; omega, do13⟩⟩ (by first | omega | (dsimp only; omega))
    · have da12 := nx_0 (n := 30) do5
      have dc12 := nx_1 (s := ds5) (n := 30) (by omega)
      have do12 := nx_ok (n := 30) do5
      obtain ⟨dz12, hz12⟩ : ∃ z, z = (nx ds5 30).1 := ⟨_, rfl⟩
      obtain ⟨ds12, hs12⟩ : ∃ z, z = (nx ds5 30).2 := ⟨_, rfl⟩
      rw [← hz12] at da12 dc12
      rw [← hs12] at do12
      refine sk (sq (sq ?_))
      refine gen (fun ρ => ρ 0 = .pointer (some ⟨g, 0, none⟩) ∧ ρ 3 = o ∧ ρ 4 = .int .i64 ((m : Int) - (j : Int)) ∧ ρ 5 = .pointer (some ⟨g5, 0, none⟩) ∧ True) ⟨y0, y3, y4, rfl, trivial⟩ ?_
      rintro ρ ⟨z0, z3, z4, z5, -⟩
      obtain ⟨F13, hF13, n13, s13, K13⟩ := Hold.front (Γ := [rB g 172 ([v, .int .i64 (ds5.pt : Int), .int .i64 ds5.mix, .int .i64 ds5.size]), rR u8 5 v ds5.code]) (Δ := [rR kE 70 o t, rB g5 70 ([.int .i64 dz4, .bool (decide (dz5 = 0))])]) H7
      refine rg (r (mv z0) (cl go111 (l1Next (s := ds5) (m := 30) hF13 n13 do5 (by omega)) (ac rfl (ac rfl an)) ?_))
      rintro r wn12 ⟨er12, Hn12⟩
      rw [← hz12] at er12
      rw [← hs12] at Hn12
      subst er12
      have H8 : Hold w F wn12 [rB g 172 ([v, .int .i64 (ds12.pt : Int), .int .i64 ds12.mix, .int .i64 ds12.size]), rR u8 5 v ds12.code, rR kE 70 o t, rB g5 70 ([.int .i64 dz4, .bool (decide (dz5 = 0))])] := Hold.call K13 Hn12
      clear H7
      clear K13 hF13 n13 s13
      clear Hn12
      refine r (bi rfl rfl rfl) (re ?_)
      refine cp rfl (fun h3 => ?_) (fun h3 => ?_)
      · have da14 := nx_0 (n := 2) do12
        have dc14 := nx_1 (s := ds12) (n := 2) (by omega)
        have do14 := nx_ok (n := 2) do12
        obtain ⟨dz14, hz14⟩ : ∃ z, z = (nx ds12 2).1 := ⟨_, rfl⟩
        obtain ⟨ds14, hs14⟩ : ∃ z, z = (nx ds12 2).2 := ⟨_, rfl⟩
        rw [← hz14] at da14 dc14
        rw [← hs14] at do14
        obtain ⟨F15, hF15, n15, s15, K15⟩ := Hold.front (Γ := [rB g 172 ([v, .int .i64 (ds12.pt : Int), .int .i64 ds12.mix, .int .i64 ds12.size]), rR u8 5 v ds12.code]) (Δ := [rR kE 70 o t, rB g5 70 ([.int .i64 dz4, .bool (decide (dz5 = 0))])]) H8
        refine rg (r (mv z0) (cl go111 (l1Next (s := ds12) (m := 2) hF15 n15 do12 (by omega)) (ac rfl (ac rfl an)) ?_))
        rintro r wn14 ⟨er14, Hn14⟩
        rw [← hz14] at er14
        rw [← hs14] at Hn14
        subst er14
        have H9 : Hold w F wn14 [rB g 172 ([v, .int .i64 (ds14.pt : Int), .int .i64 ds14.mix, .int .i64 ds14.size]), rR u8 5 v ds14.code, rR kE 70 o t, rB g5 70 ([.int .i64 dz4, .bool (decide (dz5 = 0))])] := Hold.call K15 Hn14
        clear H8
        clear K15 hF15 n15 s15
        clear Hn14
        have b16 : B wn14 g5 70 ([.int .i64 dz4, .bool (decide (dz5 = 0))]) := Hold.blk H9 3 rfl
        refine r (ad (a := 32767) (b := dz14) (32767 + dz14) rfl rfl (by omega)) (r (fa Try.underlying70 rfl ti2 rfl z5) (ef0 (xst (vs := [.int .i64 (32767 + dz14)]) ti2 rfl rfl (cel1 rfl) b16 rfl (Nat.le_of_ble_eq_true rfl) (one_all rfl)) ?_))
        rintro w17 ⟨-, b17, c17⟩
        have H10 : Hold w F w17 [rB g 172 ([v, .int .i64 (ds14.pt : Int), .int .i64 ds14.mix, .int .i64 ds14.size]), rR u8 5 v ds14.code, rR kE 70 o t, rB g5 70 ([.int .i64 (32767 + dz14), .bool (decide (dz5 = 0))])] := Hold.setB H9 3 rfl b17 c17 rfl
        clear H9
        clear b17 c17
        have b18 : B w17 g5 70 ([.int .i64 (32767 + dz14), .bool (decide (dz5 = 0))]) := Hold.blk H10 3 rfl
        refine re (rg (r (mv z3) (r (lab [.int .i64 (32767 + dz14), .bool (decide (dz5 = 0))] Try.underlying70 rfl ti70 z5 b18 rfl rfl) (ef (xbs1 (cs := [.int .i64 (32767 + dz14), .bool (decide (dz5 = 0))]) Try.underlying57 ti70 rfl rfl rfl rfl rfl) ?_))))
        rintro _ w19 ⟨g33, e19, rfl, -, b19, c19⟩
        have H11 : Hold w F w19 [rB g 172 ([v, .int .i64 (ds14.pt : Int), .int .i64 ds14.mix, .int .i64 ds14.size]), rR u8 5 v ds14.code, rR kE 70 o t, rB g5 70 ([.int .i64 (32767 + dz14), .bool (decide (dz5 = 0))]), rB g33 70 ([.int .i64 (32767 + dz14), .bool (decide (dz5 = 0))])] := Hold.newB H10 e19 b19 c19
        clear H10
        clear e19 b19 c19
        have b21 : B w19 g33 70 ([.int .i64 (32767 + dz14), .bool (decide (dz5 = 0))]) := Hold.blk H11 4 rfl
        obtain ⟨F22, P22, n22, s22, K22⟩ := Hold.pick H11 2 rfl
        replace P22 : Kd.W kE 70 w19 F22 o t := P22
        refine ef (xapb (ys := [(32767 + dz14, decide (dz5 = 0))]) Try.underlying57 ti70 rfl rfl rfl P22 b21 (els_one (R := Kd.O kE _) (show Kd.O kE _ [] (32767 + dz14, decide (dz5 = 0)) _ from ⟨[], [], [_], [_], rfl, rfl, ⟨rfl, rfl⟩, ⟨rfl, rfl⟩⟩)) (nodup_nil n22) (by simp; omega)) ?_
        rintro v34_20 w20 ⟨F20, A20⟩
        have H12 : Hold w F w20 [rB g 172 ([v, .int .i64 (ds14.pt : Int), .int .i64 ds14.mix, .int .i64 ds14.size]), rR u8 5 v ds14.code, rR kE 70 v34_20 (t ++ [(32767 + dz14, decide (dz5 = 0))]), rB g5 70 ([.int .i64 (32767 + dz14), .bool (decide (dz5 = 0))]), rB g33 70 ([.int .i64 (32767 + dz14), .bool (decide (dz5 = 0))])] := Hold.apd K22 P22 A20 rfl
        clear H11
        clear A20 K22 P22 n22 s22
        refine r (sa rfl) (re (be ?_))
        refine gen (fun ρ => ρ 0 = .pointer (some ⟨g, 0, none⟩) ∧ ρ 3 = v34_20 ∧ ρ 4 = .int .i64 ((m : Int) - (j : Int)) ∧ True) ⟨z0, rfl, z4, trivial⟩ ?_
        rintro ρ ⟨z0, z3, z4, -⟩
        refine rg (r (mv z4) (r (sb (a := (m : Int) - (j : Int)) (b := 1) ((m : Int) - ((j + 1 : Nat) : Int)) rfl rfl (by omega)) (r (sa rfl) (re ?_))))
        have H13 : Hold w F w20 [rB g 172 ([v, .int .i64 (ds14.pt : Int), .int .i64 ds14.mix, .int .i64 ds14.size]), rR u8 5 v ds14.code, rR kE 70 v34_20 (t ++ [(32767 + dz14, decide (dz5 = 0))])] := (show Hold w F w20 ([rB g 172 ([v, .int .i64 (ds14.pt : Int), .int .i64 ds14.mix, .int .i64 ds14.size]), rR u8 5 v ds14.code, rR kE 70 v34_20 (t ++ [(32767 + dz14, decide (dz5 = 0))])] ++ [rB g5 70 ([.int .i64 (32767 + dz14), .bool (decide (dz5 = 0))]), rB g33 70 ([.int .i64 (32767 + dz14), .bool (decide (dz5 = 0))])]) from Hold.re H12 [0, 1, 2, 3, 4] (by kernel_rfl) (by rfl)).drop
        clear H12
        exact ag (j + 1, v34_20, t ++ [(32767 + dz14, decide (dz5 = 0))], ds14) ⟨z0, z3, rfl, H13, ⟨by omega, by simp; omega, do14⟩⟩ (by first | omega | (dsimp only; omega))
      · have b14 : B wn12 g5 70 ([.int .i64 dz4, .bool (decide (dz5 = 0))]) := Hold.blk H8 3 rfl
        refine sk (rg (r (mv z3) (r (lab [.int .i64 dz4, .bool (decide (dz5 = 0))] Try.underlying70 rfl ti70 z5 b14 rfl rfl) (ef (xbs1 (cs := [.int .i64 dz4, .bool (decide (dz5 = 0))]) Try.underlying57 ti70 rfl rfl rfl rfl rfl) ?_))))
        rintro _ w15 ⟨g33, e15, rfl, -, b15, c15⟩
        have H9 : Hold w F w15 [rB g 172 ([v, .int .i64 (ds12.pt : Int), .int .i64 ds12.mix, .int .i64 ds12.size]), rR u8 5 v ds12.code, rR kE 70 o t, rB g5 70 ([.int .i64 dz4, .bool (decide (dz5 = 0))]), rB g33 70 ([.int .i64 dz4, .bool (decide (dz5 = 0))])] := Hold.newB H8 e15 b15 c15
        clear H8
        clear e15 b15 c15
        have b17 : B w15 g33 70 ([.int .i64 dz4, .bool (decide (dz5 = 0))]) := Hold.blk H9 4 rfl
        obtain ⟨F18, P18, n18, s18, K18⟩ := Hold.pick H9 2 rfl
        replace P18 : Kd.W kE 70 w15 F18 o t := P18
        refine ef (xapb (ys := [(dz4, decide (dz5 = 0))]) Try.underlying57 ti70 rfl rfl rfl P18 b17 (els_one (R := Kd.O kE _) (show Kd.O kE _ [] (dz4, decide (dz5 = 0)) _ from ⟨[], [], [_], [_], rfl, rfl, ⟨rfl, rfl⟩, ⟨rfl, rfl⟩⟩)) (nodup_nil n18) (by simp; omega)) ?_
        rintro v34_16 w16 ⟨F16, A16⟩
        have H10 : Hold w F w16 [rB g 172 ([v, .int .i64 (ds12.pt : Int), .int .i64 ds12.mix, .int .i64 ds12.size]), rR u8 5 v ds12.code, rR kE 70 v34_16 (t ++ [(dz4, decide (dz5 = 0))]), rB g5 70 ([.int .i64 dz4, .bool (decide (dz5 = 0))]), rB g33 70 ([.int .i64 dz4, .bool (decide (dz5 = 0))])] := Hold.apd K18 P18 A16 rfl
        clear H9
        clear A16 K18 P18 n18 s18
        refine r (sa rfl) (re (be (rg (r (mv z4) (r (sb (a := (m : Int) - (j : Int)) (b := 1) ((m : Int) - ((j + 1 : Nat) : Int)) rfl rfl (by omega)) (r (sa rfl) (re ?_)))))))
        have H11 : Hold w F w16 [rB g 172 ([v, .int .i64 (ds12.pt : Int), .int .i64 ds12.mix, .int .i64 ds12.size]), rR u8 5 v ds12.code, rR kE 70 v34_16 (t ++ [(dz4, decide (dz5 = 0))])] := (show Hold w F w16 ([rB g 172 ([v, .int .i64 (ds12.pt : Int), .int .i64 ds12.mix, .int .i64 ds12.size]), rR u8 5 v ds12.code, rR kE 70 v34_16 (t ++ [(dz4, decide (dz5 = 0))])] ++ [rB g5 70 ([.int .i64 dz4, .bool (decide (dz5 = 0))]), rB g33 70 ([.int .i64 dz4, .bool (decide (dz5 = 0))])]) from Hold.re H10 [0, 1, 2, 3, 4] (by kernel_rfl) (by rfl)).drop
        clear H10
        exact ag (j + 1, v34_16, t ++ [(dz4, decide (dz5 = 0))], ds12) ⟨z0, rfl, rfl, H11, ⟨by omega, by simp; omega, do12⟩⟩ (by first | omega | (dsimp only; omega))
  · have hl : t.length ≤ 100 := by omega
    have da4 := nx_0 (n := 30) ok1
    have dc4 := nx_1 (s := s1) (n := 30) (by omega)
    have do4 := nx_ok (n := 30) ok1
    obtain ⟨dz4, hz4⟩ : ∃ z, z = (nx s1 30).1 := ⟨_, rfl⟩
    obtain ⟨ds4, hs4⟩ : ∃ z, z = (nx s1 30).2 := ⟨_, rfl⟩
    rw [← hz4] at da4 dc4
    rw [← hs4] at do4
    obtain ⟨F5, hF5, n5, s5, K5⟩ := Hold.front (Γ := [rB g 172 ([v, .int .i64 (s1.pt : Int), .int .i64 s1.mix, .int .i64 s1.size]), rR u8 5 v s1.code]) (Δ := [rR kE 70 o t]) H3
    refine ex rfl (sq (sq (rg (r (mv y0) (cl go111 (l1Next (s := s1) (m := 30) hF5 n5 ok1 (by omega)) (ac rfl (ac rfl an)) ?_)))))
    rintro r wn4 ⟨er4, Hn4⟩
    rw [← hz4] at er4
    rw [← hs4] at Hn4
    subst er4
    have H4 : Hold w F wn4 [rB g 172 ([v, .int .i64 (ds4.pt : Int), .int .i64 ds4.mix, .int .i64 ds4.size]), rR u8 5 v ds4.code, rR kE 70 o t] := Hold.call K5 Hn4
    clear H3
    clear K5 hF5 n5 s5
    clear Hn4
    refine r (bi rfl rfl rfl) (re ?_)
    refine cp rfl (fun h4 => ?_) (fun h4 => ?_)
    · have da6 := nx_0 (n := 2) do4
      have dc6 := nx_1 (s := ds4) (n := 2) (by omega)
      have do6 := nx_ok (n := 2) do4
      obtain ⟨dz6, hz6⟩ : ∃ z, z = (nx ds4 2).1 := ⟨_, rfl⟩
      obtain ⟨ds6, hs6⟩ : ∃ z, z = (nx ds4 2).2 := ⟨_, rfl⟩
      rw [← hz6] at da6 dc6
      rw [← hs6] at do6
      obtain ⟨q, hm6⟩ : ∃ m : Nat, dz6 = (m : Int) := ⟨dz6.toNat, by omega⟩
      obtain ⟨F7, hF7, n7, s7, K7⟩ := Hold.front (Γ := [rB g 172 ([v, .int .i64 (ds4.pt : Int), .int .i64 ds4.mix, .int .i64 ds4.size]), rR u8 5 v ds4.code]) (Δ := [rR kE 70 o t]) H4
      refine sq (rg (r (mv y0) (cl go111 (l1Next (s := ds4) (m := 2) hF7 n7 do4 (by omega)) (ac rfl (ac rfl an)) ?_)))
      rintro r wn6 ⟨er6, Hn6⟩
      rw [← hz6, hm6] at er6
      rw [← hs6] at Hn6
      subst er6
      have H5 : Hold w F wn6 [rB g 172 ([v, .int .i64 (ds6.pt : Int), .int .i64 ds6.mix, .int .i64 ds6.size]), rR u8 5 v ds6.code, rR kE 70 o t] := Hold.call K7 Hn6
      clear H4
      clear K7 hF7 n7 s7
      clear Hn6
      refine r (ad (a := 1024) (b := (q : Int)) (((1024 + q : Nat) : Int)) rfl rfl (by omega)) (r (sa rfl) (re (bl ?_)))
      refine lp (α := Nat × Value × List (Int × Bool)) (fun (j2, o, t) ρ w' => ρ 0 = .pointer (some ⟨g, 0, none⟩) ∧ ρ 3 = o ∧ ρ 6 = .int .i64 ((1024 + q : Nat) : Int) ∧ Hold w F w' [rB g 172 ([v, .int .i64 (ds6.pt : Int), .int .i64 ds6.mix, .int .i64 ds6.size]), rR u8 5 v ds6.code, rR kE 70 o t] ∧ t.length ≤ 1024 + q) (fun (j2, o, t) => 2000 - t.length) (0, o, t) ?_ ?_
      · exact ⟨y0, y3, rfl, H5, by omega⟩
      clear H5
      rintro ⟨j2, o, t⟩ ρ w506 ⟨y0, y3, y6, H6, hl2⟩
      obtain ⟨_, R8⟩ : ∃ F, Kd.R kE w506 F o t := Hold.row H6 2 rfl
      refine sq (sq (rg (r (mv y3) (r (ln Try.underlying57 rfl (R8)) (r (mv y6) (r (bi rfl rfl rfl) (re ?_)))))))
      refine cp rfl (fun h7 => ?_) (fun h7 => ?_)
      · refine sk (bl (rg (r (mv y3) (r (mv y3) (r (ln Try.underlying57 rfl (R8)) (r (bd (r := [.int .i64 (t.length : Int), .bool false]) ti70 pl70 (pc rfl (cel1 rfl) pn) rfl) (ef (xbs1 (cs := [.int .i64 (t.length : Int), .bool false]) Try.underlying57 ti70 rfl rfl rfl rfl rfl) ?_)))))))
        rintro _ w9 ⟨g49, e9, rfl, -, b9, c9⟩
        have H7 : Hold w F w9 [rB g 172 ([v, .int .i64 (ds6.pt : Int), .int .i64 ds6.mix, .int .i64 ds6.size]), rR u8 5 v ds6.code, rR kE 70 o t, rB g49 70 ([.int .i64 (t.length : Int), .bool false])] := Hold.newB H6 e9 b9 c9
        clear H6
        clear e9 b9 c9
        have b11 : B w9 g49 70 ([.int .i64 (t.length : Int), .bool false]) := Hold.blk H7 3 rfl
        obtain ⟨F12, P12, n12, s12, K12⟩ := Hold.pick H7 2 rfl
        replace P12 : Kd.W kE 70 w9 F12 o t := P12
        refine ef (xapb (ys := [((t.length : Int), false)]) Try.underlying57 ti70 rfl rfl rfl P12 b11 (els_one (R := Kd.O kE _) (show Kd.O kE _ [] ((t.length : Int), false) _ from ⟨[], [], [_], [_], rfl, rfl, ⟨rfl, rfl⟩, ⟨rfl, rfl⟩⟩)) (nodup_nil n12) (by simp; omega)) ?_
        rintro v50_10 w10 ⟨F10, A10⟩
        have H8 : Hold w F w10 [rB g 172 ([v, .int .i64 (ds6.pt : Int), .int .i64 ds6.mix, .int .i64 ds6.size]), rR u8 5 v ds6.code, rR kE 70 v50_10 (t ++ [((t.length : Int), false)]), rB g49 70 ([.int .i64 (t.length : Int), .bool false])] := Hold.apd K12 P12 A10 rfl
        clear H7
        clear A10 K12 P12 n12 s12
        refine r (sa rfl) (re (be ?_))
        have H9 : Hold w F w10 [rB g 172 ([v, .int .i64 (ds6.pt : Int), .int .i64 ds6.mix, .int .i64 ds6.size]), rR u8 5 v ds6.code, rR kE 70 v50_10 (t ++ [((t.length : Int), false)])] := (show Hold w F w10 ([rB g 172 ([v, .int .i64 (ds6.pt : Int), .int .i64 ds6.mix, .int .i64 ds6.size]), rR u8 5 v ds6.code, rR kE 70 v50_10 (t ++ [((t.length : Int), false)])] ++ [rB g49 70 ([.int .i64 (t.length : Int), .bool false])]) from Hold.re H8 [0, 1, 2, 3] (by kernel_rfl) (by rfl)).drop
        clear H8
        exact ag (j2, v50_10, t ++ [((t.length : Int), false)]) ⟨y0, rfl, y6, H9, by simp; omega⟩ (by simp; omega)
      · have hl3 : t.length ≤ 1026 := by omega
        refine ex rfl (sq (sq (rg (r (mv y3) (r (ln Try.underlying57 rfl (R8)) (r (bi rfl rfl rfl) (r (mv rfl) ?_)))))))
        refine sp 54 rfl (fun h5 => ?_) (fun h5 => ?_)
        · have da9 := nx_0 (n := 12) do6
          have dc9 := nx_1 (s := ds6) (n := 12) (by omega)
          have do9 := nx_ok (n := 12) do6
          obtain ⟨dz9, hz9⟩ : ∃ z, z = (nx ds6 12).1 := ⟨_, rfl⟩
          obtain ⟨ds9, hs9⟩ : ∃ z, z = (nx ds6 12).2 := ⟨_, rfl⟩
          rw [← hz9] at da9 dc9
          rw [← hs9] at do9
          obtain ⟨F10, hF10, n10, s10, K10⟩ := Hold.front (Γ := [rB g 172 ([v, .int .i64 (ds6.pt : Int), .int .i64 ds6.mix, .int .i64 ds6.size]), rR u8 5 v ds6.code]) (Δ := [rR kE 70 o t]) H6
          refine gy rfl rfl rfl (r (mv y0) (gy rfl rfl rfl (cl go111 (l1Next (s := ds6) (m := 12) hF10 n10 do6 (by omega)) (ac rfl (ac rfl an)) ?_)))
          rintro r wn9 ⟨er9, Hn9⟩
          rw [← hz9] at er9
          rw [← hs9] at Hn9
          subst er9
          have H7 : Hold w F wn9 [rB g 172 ([v, .int .i64 (ds9.pt : Int), .int .i64 ds9.mix, .int .i64 ds9.size]), rR u8 5 v ds9.code, rR kE 70 o t] := Hold.call K10 Hn9
          clear H6
          clear K10 hF10 n10 s10
          clear Hn9
          refine gy rfl rfl rfl (r (bi rfl rfl rfl) (r (pk rfl rfl) (re ?_)))
          refine cp rfl (fun h6 => ?_) (fun h6 => ?_)
          · refine gen (fun ρ => ρ 3 = o ∧ True) ⟨y3, trivial⟩ ?_
            rintro ρ ⟨z3, -⟩
            obtain ⟨F12, P12, n12, s12, K12⟩ := Hold.pick H7 2 rfl
            replace P12 : Kd.W kE 70 wn9 F12 o t := P12
            refine rg (r (mv z3) (r (bd (r := [.int .i64 0, .bool true]) ti70 pl70 (pc rfl (cel1 rfl) pn) rfl) (ixs (a := (0, true)) (j := 0) Try.underlying57 ti70 rfl P12 rfl (by omega) (fun _ => rfl) ⟨[], [], [_], [_], rfl, rfl, ⟨rfl, rfl⟩, ⟨rfl, rfl⟩⟩ (nodup_nil n12) ?_)))
            intro _ w11 F11 s11 A11
            have H8 : Hold w F w11 [rB g 172 ([v, .int .i64 (ds9.pt : Int), .int .i64 ds9.mix, .int .i64 ds9.size]), rR u8 5 v ds9.code, rR kE 70 o (t.set 0 (0, true))] := Hold.apd K12 P12 A11 rfl
            clear H7
            clear A11 K12 P12 n12 s12 s11
            refine re (sq (rg (r (mv z3) (r (sa rfl) (re (rt ?_))))))
            exact fin1 (v := o) Try.results112 rfl ⟨_, _, (by first | omega | (simp; omega)), do9, H8⟩
          · refine sk (sq ?_)
            refine gen (fun ρ => ρ 3 = o ∧ True) ⟨y3, trivial⟩ ?_
            rintro ρ ⟨z3, -⟩
            refine rg (r (mv z3) (r (sa rfl) (re (rt ?_))))
            exact fin1 (v := o) Try.results112 rfl ⟨_, _, (by first | omega | (simp; omega)), do9, H7⟩
        · refine gn rfl rfl rfl (gn rfl rfl rfl (gn rfl rfl rfl (r (pk rfl rfl) (re (cf rfl (sk (sq ?_)))))))
          refine gen (fun ρ => ρ 3 = o ∧ True) ⟨y3, trivial⟩ ?_
          rintro ρ ⟨z3, -⟩
          refine rg (r (mv z3) (r (sa rfl) (re (rt ?_))))
          exact fin1 (v := o) Try.results112 rfl ⟨_, _, (by first | omega | (simp; omega)), do6, H6⟩
    · obtain ⟨_, R6⟩ : ∃ F, Kd.R kE wn4 F o t := Hold.row H4 2 rfl
      refine sk (sq (sq (rg (r (mv y3) (r (ln Try.underlying57 rfl (R6)) (r (bi rfl rfl rfl) (r (mv rfl) ?_)))))))
      refine sp 54 rfl (fun h5 => ?_) (fun h5 => ?_)
      · have da7 := nx_0 (n := 12) do4
        have dc7 := nx_1 (s := ds4) (n := 12) (by omega)
        have do7 := nx_ok (n := 12) do4
        obtain ⟨dz7, hz7⟩ : ∃ z, z = (nx ds4 12).1 := ⟨_, rfl⟩
        obtain ⟨ds7, hs7⟩ : ∃ z, z = (nx ds4 12).2 := ⟨_, rfl⟩
        rw [← hz7] at da7 dc7
        rw [← hs7] at do7
        obtain ⟨F8, hF8, n8, s8, K8⟩ := Hold.front (Γ := [rB g 172 ([v, .int .i64 (ds4.pt : Int), .int .i64 ds4.mix, .int .i64 ds4.size]), rR u8 5 v ds4.code]) (Δ := [rR kE 70 o t]) H4
        refine gy rfl rfl rfl (r (mv y0) (gy rfl rfl rfl (cl go111 (l1Next (s := ds4) (m := 12) hF8 n8 do4 (by omega)) (ac rfl (ac rfl an)) ?_)))
        rintro r wn7 ⟨er7, Hn7⟩
        rw [← hz7] at er7
        rw [← hs7] at Hn7
        subst er7
        have H5 : Hold w F wn7 [rB g 172 ([v, .int .i64 (ds7.pt : Int), .int .i64 ds7.mix, .int .i64 ds7.size]), rR u8 5 v ds7.code, rR kE 70 o t] := Hold.call K8 Hn7
        clear H4
        clear K8 hF8 n8 s8
        clear Hn7
        refine gy rfl rfl rfl (r (bi rfl rfl rfl) (r (pk rfl rfl) (re ?_)))
        refine cp rfl (fun h6 => ?_) (fun h6 => ?_)
        · refine gen (fun ρ => ρ 3 = o ∧ True) ⟨y3, trivial⟩ ?_
          rintro ρ ⟨z3, -⟩
          obtain ⟨F10, P10, n10, s10, K10⟩ := Hold.pick H5 2 rfl
          replace P10 : Kd.W kE 70 wn7 F10 o t := P10
          refine rg (r (mv z3) (r (bd (r := [.int .i64 0, .bool true]) ti70 pl70 (pc rfl (cel1 rfl) pn) rfl) (ixs (a := (0, true)) (j := 0) Try.underlying57 ti70 rfl P10 rfl (by omega) (fun _ => rfl) ⟨[], [], [_], [_], rfl, rfl, ⟨rfl, rfl⟩, ⟨rfl, rfl⟩⟩ (nodup_nil n10) ?_)))
          intro _ w9 F9 s9 A9
          have H6 : Hold w F w9 [rB g 172 ([v, .int .i64 (ds7.pt : Int), .int .i64 ds7.mix, .int .i64 ds7.size]), rR u8 5 v ds7.code, rR kE 70 o (t.set 0 (0, true))] := Hold.apd K10 P10 A9 rfl
          clear H5
          clear A9 K10 P10 n10 s10 s9
          refine re (sq (rg (r (mv z3) (r (sa rfl) (re (rt ?_))))))
          exact fin1 (v := o) Try.results112 rfl ⟨_, _, (by first | omega | (simp; omega)), do7, H6⟩
        · refine sk (sq ?_)
          refine gen (fun ρ => ρ 3 = o ∧ True) ⟨y3, trivial⟩ ?_
          rintro ρ ⟨z3, -⟩
          refine rg (r (mv z3) (r (sa rfl) (re (rt ?_))))
          exact fin1 (v := o) Try.results112 rfl ⟨_, _, (by first | omega | (simp; omega)), do7, H5⟩
      · refine gn rfl rfl rfl (gn rfl rfl rfl (gn rfl rfl rfl (r (pk rfl rfl) (re (cf rfl (sk (sq ?_)))))))
        refine gen (fun ρ => ρ 3 = o ∧ True) ⟨y3, trivial⟩ ?_
        rintro ρ ⟨z3, -⟩
        refine rg (r (mv z3) (r (sa rfl) (re (rt ?_))))
        exact fin1 (v := o) Try.results112 rfl ⟨_, _, (by first | omega | (simp; omega)), do4, H4⟩
theorem DrawFreeLids {w : World} {F : List Nat} {v : Value} {xs : List Int} (hx : u8.R w F v xs) (lx : xs.length ≤ 1000000000) (ok : ok8 xs) :
    Ret Try.prog 55 #[v] w (fun r w' => ∃ (t : List (Int × Bool)) (n : Int) (o : Value), r = .tuple #[o, .int .i64 n] ∧ t.length ≤ 2000 ∧ Hold w [] w' [rR kE 70 o t]) := by
  refine enter Try.func55 rfl Try.ntmps55 (by rfl) (by rfl) ?_
  have H0 : Hold w [] w [] := Hold.start w
  refine sq (rg (r (sa rfl) (r (sa rfl) (re (sq (rg (r (mv rfl) (cl go109 (l1Source (hx.t (Hold.ch H0)) lx ok) (ac rfl an) ?_))))))))
  rintro r ws ⟨g, u, rfl, Hs1⟩
  have H1 : Hold w [] ws [rB g 172 ([u, .int .i64 ((srcOf xs).pt : Int), .int .i64 ((srcOf xs).mix), .int .i64 ((srcOf xs).size)]), rR u8 5 u ((srcOf xs).code)] := Hold.news H0 Hs1
  clear H0
  clear Hs1
  refine r (sa rfl) (re (sq (rg (r (mv rfl) ?_))))
  obtain ⟨F2, hF2, n2, s2, K2⟩ := Hold.front (Γ := [rB g 172 ([u, .int .i64 ((srcOf xs).pt : Int), .int .i64 ((srcOf xs).mix), .int .i64 ((srcOf xs).size)]), rR u8 5 u ((srcOf xs).code)]) (Δ := []) H1
  refine cl go112 (l2DrawTable hF2 n2 (srcOf_ok ok)) (ac rfl an) ?_
  rintro rv0 wd ⟨t0, s0, ht0, ok0, Hd⟩
  have H2 : Hold w [] wd [rB g 172 ([u, .int .i64 (s0.pt : Int), .int .i64 s0.mix, .int .i64 s0.size]), rR u8 5 u s0.code, rR kE 70 rv0 t0] := Hold.call K2 Hd
  clear H1
  clear K2 hF2 n2 s2
  clear Hd
  obtain ⟨F3, hF3, n3, s3, K3⟩ := Hold.front (Γ := [rB g 172 ([u, .int .i64 (s0.pt : Int), .int .i64 s0.mix, .int .i64 s0.size]), rR u8 5 u s0.code]) (Δ := [rR kE 70 rv0 t0]) H2
  refine r (mv rfl) (cl go111 (l1Next (s := s0) (m := 8) hF3 n3 ok0 (by omega)) (ac rfl (ac rfl an)) ?_)
  rintro r wn ⟨er, Hn⟩
  have dn0 := nx_0 (n := 8) ok0
  have dn1 := nx_1 (s := s0) (n := 8) (by omega)
  obtain ⟨dz0, hdz⟩ : ∃ z, z = (nx s0 8).1 := ⟨_, rfl⟩
  rw [← hdz] at er dn0 dn1
  subst er
  have H3 : Hold w [] wn [rB g 172 ([u, .int .i64 ((nx s0 8).2.pt : Int), .int .i64 ((nx s0 8).2.mix), .int .i64 ((nx s0 8).2.size)]), rR u8 5 u ((nx s0 8).2.code), rR kE 70 rv0 t0] := Hold.call K3 Hn
  clear H2
  clear K3 hF3 n3 s3
  clear Hn
  refine r (sb (a := dz0) (b := 1) (dz0 - 1) rfl rfl (by omega)) (r (sa rfl) (r (sa rfl) (re (rt ?_))))
  have H4 : Hold w [] wn [rR kE 70 rv0 t0] := (show Hold w [] wn ([rR kE 70 rv0 t0] ++ [rB g 172 ([u, .int .i64 ((nx s0 8).2.pt : Int), .int .i64 ((nx s0 8).2.mix), .int .i64 ((nx s0 8).2.size)]), rR u8 5 u ((nx s0 8).2.code)]) from Hold.re H3 [2, 0, 1] (by kernel_rfl) (by rfl)).drop
  clear H3
  exact fin2 (v := rv0) (v' := .int .i64 (dz0 - 1)) Try.results55 rfl rfl ⟨_, _, _, rfl, ht0, H4⟩
end Go.Proofs.Ytgpcanjmgdmdhaa
