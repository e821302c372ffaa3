/-
  CONTRACTS 34: an inode's bytes. No condition.
-/
import Derived.Test.YtgpcanjmgdmdhaaDoor33
namespace Go.Proofs.YtgpcanjmgdmdhaaDoor
open Go Go.Eng
set_option maxRecDepth 100000
set_option maxHeartbeats 4000000
set_option linter.unusedVariables false
set_option linter.unusedSimpArgs false
theorem l2Pad_H {w : World} {F : List Nat} {v : Value} {xs : List Int} {n : Nat} (hx : u8.R w F v xs) (lx : xs.length ≤ 1000000000) (hn : n ≤ 1000000000) : Ret Tryd.prog 54 #[v, .int .i64 (n : Int)] w (fun r w' => Hold w [] w' [rR u8 5 r (xs ++ List.replicate (n - xs.length) 0)]) :=
  Calls.mono (l2Pad hx lx hn) fun _ _ h => h.imp fun _ h => ⟨h.1, hold_new h.2.1 h.2.2⟩
theorem l2Big_H {n : Nat} {w : World} {v : Int} (hv : 0 ≤ v ∧ v ≤ 9223372036854775807) (hn : n ≤ 1000) : Ret Tryd.prog 55 #[.int .i64 v, .int .i64 (n : Int)] w (fun r w' => Hold w [] w' [rR u8 5 r (big v n)]) :=
  Calls.mono (l2Big hv hn) fun _ _ h => h.imp fun _ h => ⟨h.1, hold_new h.2.1 h.2.2⟩
theorem bytesOf_H {w : World} {F : List Nat} {v : Value} {ns : List (Int × Int)} (hx : knum.R w F v ns) (lx : ns.length ≤ 2000) (hb : ∀ x, x ∈ ns → 0 ≤ x.1 ∧ x.1 ≤ 100 ∧ 0 ≤ x.2 ∧ x.2 ≤ 9223372036854775807) :
    Ret Tryd.prog 58 #[v] w (fun r w' => Hold w [] w' [rR u8 5 r (flat ns)]) :=
  Calls.mono (bytesOf hx lx hb) fun _ _ h => h.imp fun _ h => ⟨h.1, hold_new h.2.1 h.2.2⟩
theorem mix_16 {A C : List Int} (ha : A.length ≤ 16) (hb : C.length ≤ 48) : (A ++ List.replicate (64 - A.length) 0).take 16 ++ C.take (64 - 16) ++ (A ++ List.replicate (64 - A.length) 0).drop (16 + C.length) = (A ++ List.replicate (16 - A.length) 0) ++ C ++ List.replicate (48 - C.length) 0 := by
  rw [List.take_append, List.take_of_length_le (l := A) (by omega), List.take_replicate, List.take_of_length_le (l := C) (by omega), List.drop_append, List.drop_of_length_le (by omega), List.nil_append, List.drop_replicate]
  congr 2
  · congr 2; congr 1; omega
  · omega
theorem inoV_in {nm : List Int} {z : Int} {ls : List Int} (h : inoOk nm z ls) : ∀ x, x ∈ inoV nm z ls → 0 ≤ x.1 ∧ x.1 ≤ 100 ∧ 0 ≤ x.2 ∧ x.2 ≤ 9223372036854775807 := by
  intro x hx
  simp only [inoV, List.mem_cons, List.mem_map] at hx
  rcases hx with rfl | ⟨y, hy, rfl⟩
  · have := h.2; simp only; omega
  · have := h.2.2.2.2 y hy; simp only; omega
theorem inoV_take {nm : List Int} {z : Int} {ls : List Int} {i : Nat} (hi : i < ls.length) : inoV nm z (ls.take (i + 1)) = inoV nm z (ls.take i) ++ [(2, ls[i])] := by
  rw [List.take_succ_eq_append_getElem hi]; simp only [inoV, List.map_append, List.map_cons, List.map_nil, List.cons_append]
theorem flatV_take {nm : List Int} {z : Int} {ls : List Int} {i : Nat} (hi : i < ls.length) : flat (inoV nm z (ls.take (i + 1))) = flat (inoV nm z (ls.take i)) ++ big ls[i] 2 := by
  rw [inoV_take hi]; simp [flat]
theorem Inode_block {w : World} {F : List Nat} {s : ByteArray} {z : Int} {v : Value} {xs : List Int} (hs : s.size ≤ 9223372036854775807) (hx : i64.R w F v xs) (lx : xs.length ≤ 1000000000) (ok : inoOk (nums8 s) z xs) : Ret Tryd.prog 47 #[.agg #[.string s, .int .i64 z, v]] w (fun r w' => r = .agg (byts (encI (nums8 s) z xs)).toArray ∧ Ch [] w w') := by
  refine enter Tryd.func47 rfl Tryd.ntmps47 (by rfl) (by rfl) ?_
  have H0 : Hold w [] w [] := Hold.start w
  have hn := nums8_len s
  obtain ⟨⟨o1, o2, o3⟩, o4, o5, o6, o7⟩ := ok
  refine sq (rg (ef (xbx (t := 25) rfl rfl) ?_))
  rintro _ w1 ⟨g1, e1, rfl, -, b1, c1⟩
  have H1 : Hold w [] w1 [rB g1 25 ([.string s, .int .i64 z, v])] := Hold.newB H0 e1 b1 c1
  clear H0
  clear e1 b1 c1
  refine ef (xal ti85) ?_
  rintro _ w2 ⟨g2, e2, rfl, -, b2, c2⟩
  have H2 : Hold w [] w2 [rB g1 25 ([.string s, .int .i64 z, v]), rB g2 85 (byts (List.replicate 64 0))] := Hold.newB H1 e2 b2 c2
  clear H1
  clear e2 b2 c2
  refine re (sq (rg (ef (xal ti85) ?_)))
  rintro _ w3 ⟨g3, e3, rfl, -, b3, c3⟩
  have H3 : Hold w [] w3 [rB g1 25 ([.string s, .int .i64 z, v]), rB g2 85 (byts (List.replicate 64 0)), rB g3 85 (byts (List.replicate 64 0))] := Hold.newB H2 e3 b3 c3
  clear H2
  clear e3 b3 c3
  refine re (sq ?_)
  refine rde mixed ?_
  intro w4 c4
  have H4 : Hold w [] w4 [rB g1 25 ([.string s, .int .i64 z, v]), rB g2 85 (byts (List.replicate 64 0)), rB g3 85 (byts (List.replicate 64 0))] := Hold.t H3 c4
  clear H3
  clear c4
  have H5d0 : Hold w4 [] w4 [] := Hold.start w4
  refine ⟨fun w' => Ch [] w4 w', Ch.refl _ _, ?_⟩
  have b6 : B w4 g1 25 ([.string s, .int .i64 z, v]) := Hold.blk H4 0 rfl
  have H5 : Hold w [] w4 [rB g1 25 ([.string s, .int .i64 z, v]), rB g2 85 (byts (List.replicate 64 0)), rB g3 85 (byts (List.replicate 64 0))] := Hold.news H4 H5d0
  clear H5d0 H4
  have b7 : B w4 g3 85 (byts (List.replicate 64 0)) := Hold.blk H5 2 rfl
  refine edt 0 rfl (by kernel_rfl) (fun w' hS => sla Tryd.underlying85 ti5 rfl) (edt 1 rfl (by kernel_rfl) (fun w' hS => fa Tryd.underlying25 rfl ti9 rfl rfl) (edt 2 rfl (by kernel_rfl) (fun w' hS => ldb Tryd.underlying9 rfl rfl (hS.b0 b6) rfl) (ed1 3 (by kernel_rfl) <| euf rfl (cpas (l := 0) (m := 64) Tryd.underlying22 ti5 ((rfl : _ = Value.slice (some ⟨g3, 0, none⟩) 64 64).trans (by simp [slv, Addr.add])) rfl b7 ⟨(by simp), by omega⟩) ?_)))
  rintro _ w8 ⟨rfl, -, b8, c8⟩
  have H6 : Hold w [] w8 [rB g1 25 ([.string s, .int .i64 z, v]), rB g2 85 (byts (List.replicate 64 0)), rB g3 85 (byts ((List.replicate 64 0).take 0 ++ (nums8 s).take (64 - 0) ++ (List.replicate 64 0).drop (0 + (nums8 s).length)))] := Hold.setB H5 2 rfl b8 c8 rfl
  clear H5
  clear b8 c8
  refine ⟨.inl (by kernel_rfl), ?_⟩
  refine edd (by kernel_rfl) ?_
  have b9 : B w8 g1 25 ([.string s, .int .i64 z, v]) := Hold.blk H6 0 rfl
  refine sq (rg (r (fa Tryd.underlying25 rfl ti2 rfl rfl) (r (ldb Tryd.underlying2 rfl rfl b9 rfl) (r (bd (r := [.int .i64 2, .int .i64 z]) ti98 pl98 (pc rfl (cel1 rfl) (pc rfl (cel1 rfl) pn)) rfl) (ef (bsm (cs := [.int .i64 2, .int .i64 z]) Tryd.underlying96 ti98 rfl (by rfl) (pc rfl rfl pn) rfl) ?_)))))
  rintro _ w10 ⟨g14, e10, rfl, -, b10, c10⟩
  have H7 : Hold w [] w10 [rB g1 25 ([.string s, .int .i64 z, v]), rB g2 85 (byts (List.replicate 64 0)), rB g3 85 (byts ((List.replicate 64 0).take 0 ++ (nums8 s).take (64 - 0) ++ (List.replicate 64 0).drop (0 + (nums8 s).length))), rB g14 98 ([.int .i64 2, .int .i64 z])] := Hold.newB H6 e10 b10 c10
  clear H6
  clear e10 b10 c10
  have H8 : Hold w [] w10 [rB g1 25 ([.string s, .int .i64 z, v]), rB g2 85 (byts (List.replicate 64 0)), rB g3 85 (byts ((List.replicate 64 0).take 0 ++ (nums8 s).take (64 - 0) ++ (List.replicate 64 0).drop (0 + (nums8 s).length))), rR knum 98 (.slice (some ⟨g14, 0, none⟩) 1 1) ([(2, z)])] := Hold.asrow (dk := knum) (xs := [(2, z)]) (m := 1) H7 3 rfl (els_flat [(2, z)]) ⟨rfl, Nat.le_of_ble_eq_true rfl⟩ rfl
  clear H7
  refine r (sa rfl) (re (sq (sq ?_)))
  refine gen (fun ρ => ρ 1 = .pointer (some ⟨g1, 0, none⟩) ∧ ρ 2 = .pointer (some ⟨g2, 0, none⟩) ∧ ρ 3 = .pointer (some ⟨g3, 0, none⟩) ∧ ρ 4 = .slice (some ⟨g14, 0, none⟩) 1 1 ∧ True) ⟨rfl, rfl, rfl, rfl, trivial⟩ ?_
  rintro ρ ⟨z1, z2, z3, z4, -⟩
  have b11 : B w10 g1 25 ([.string s, .int .i64 z, v]) := Hold.blk H8 0 rfl
  refine rg (r (fa Tryd.underlying25 rfl ti23 rfl z1) (r (ldb Tryd.underlying23 rfl rfl b11 rfl) (r (ln Tryd.underlying23 rfl ((hx.t (Hold.ch H8)))) (r (mv rfl) (re (bl ?_))))))
  have e1 : (List.replicate 64 0).take 0 ++ (nums8 s).take (64 - 0) ++ (List.replicate 64 0).drop (0 + (nums8 s).length) = (nums8 s ++ List.replicate (64 - (nums8 s).length) 0) := by
    rw [List.take_zero, List.nil_append, List.take_of_length_le (by omega), List.drop_replicate, Nat.zero_add]
  have H9 : Hold w [] w10 [rB g1 25 ([.string s, .int .i64 z, v]), rB g2 85 (byts (List.replicate 64 0)), rB g3 85 (byts (nums8 s ++ List.replicate (64 - (nums8 s).length) 0)), rR knum 98 (.slice (some ⟨g14, 0, none⟩) 1 1) ([(2, z)])] := (by rw [← e1]; exact H8)
  clear H8
  refine lp (α := Nat × Value) (fun (i, o) ρ w' => ρ 3 = .pointer (some ⟨g3, 0, none⟩) ∧ ρ 2 = .pointer (some ⟨g2, 0, none⟩) ∧ ρ 16 = v ∧ ρ 17 = .int .i64 (xs.length : Int) ∧ ρ 18 = .int .i64 (i : Int) ∧ ρ 4 = o ∧ Hold w [] w' [rB g1 25 ([.string s, .int .i64 z, v]), rB g2 85 (byts (List.replicate 64 0)), rB g3 85 (byts (nums8 s ++ List.replicate (64 - (nums8 s).length) 0)), rR knum 98 o (inoV (nums8 s) z (xs.take i))] ∧ i ≤ xs.length) (fun (i, o) => xs.length - i) (0, .slice (some ⟨g14, 0, none⟩) 1 1) ?_ ?_
  · exact ⟨z3, z2, rfl, rfl, rfl, z4, (by simpa [inoV] using H9), by omega⟩
  clear H9
  rintro ⟨i, o⟩ ρ w510 ⟨y3, y2, y16, y17, y18, y4, H10, hi⟩
  refine sq (rg (r (bi y18 y17 rfl) (re (sq ?_))))
  refine cp rfl (fun h => ?_) (fun h => ?_)
  · have hi' : i < xs.length := by omega
    have hv := inoV_len (nm := nums8 s) (sz := z) (ls := xs.take i)
    have hvl : (inoV (nums8 s) z (xs.take i)).length = i + 1 := by simp [inoV]; omega
    refine sk (sq (bl (sq (rg ?_))))
    obtain ⟨c20_12, ad20_12, k20_12, e20_12, p20_12⟩ := Kd.R.place hx i (by omega)
    refine r (ix (j := i) Tryd.underlying23 ti2 (y16.trans e20_12) y18 (by omega)) (r (ld Tryd.underlying2 rfl rfl (Ch.cell (Hold.ch H10) p20_12.cell)) (r (sa rfl) (re (rg (r (mv y4) (r (mv rfl) (r (bd (r := [.int .i64 2, .int .i64 (xs[i])]) ti98 pl98 (pc rfl (cel1 rfl) (pc rfl (cel1 rfl) pn)) rfl) (ef (xbs1 (cs := [.int .i64 2, .int .i64 (xs[i])]) Tryd.underlying96 ti98 rfl rfl rfl rfl rfl) ?_))))))))
    rintro _ w13 ⟨g25, e13, rfl, -, b13, c13⟩
    have H11 : Hold w [] w13 [rB g1 25 ([.string s, .int .i64 z, v]), rB g2 85 (byts (List.replicate 64 0)), rB g3 85 (byts (nums8 s ++ List.replicate (64 - (nums8 s).length) 0)), rR knum 98 o (inoV (nums8 s) z (xs.take i)), rB g25 98 ([.int .i64 2, .int .i64 (xs[i])])] := Hold.newB H10 e13 b13 c13
    clear H10
    clear e13 b13 c13
    have b15 : B w13 g25 98 ([.int .i64 2, .int .i64 (xs[i])]) := Hold.blk H11 4 rfl
    obtain ⟨F16, P16, n16, s16, K16⟩ := Hold.pick H11 3 rfl
    replace P16 : Kd.W knum 98 w13 F16 o (inoV (nums8 s) z (xs.take i)) := P16
    refine ef (xapb (ys := [(2, xs[i])]) Tryd.underlying96 ti98 rfl rfl rfl P16 b15 (els_one (R := Kd.O knum _) (show Kd.O knum _ [] (2, xs[i]) _ from ⟨rfl, rfl⟩)) (nodup_nil n16) (by simp; omega)) ?_
    rintro v26_14 w14 ⟨F14, A14⟩
    have H12 : Hold w [] w14 [rB g1 25 ([.string s, .int .i64 z, v]), rB g2 85 (byts (List.replicate 64 0)), rB g3 85 (byts (nums8 s ++ List.replicate (64 - (nums8 s).length) 0)), rR knum 98 v26_14 ((inoV (nums8 s) z (xs.take i)) ++ [(2, xs[i])]), rB g25 98 ([.int .i64 2, .int .i64 (xs[i])])] := Hold.apd K16 P16 A14 rfl
    clear H11
    clear A14 K16 P16 n16 s16
    refine r (sa rfl) (re (be ?_))
    refine gen (fun ρ => ρ 2 = .pointer (some ⟨g2, 0, none⟩) ∧ ρ 3 = .pointer (some ⟨g3, 0, none⟩) ∧ ρ 4 = v26_14 ∧ ρ 16 = v ∧ ρ 17 = .int .i64 (xs.length : Int) ∧ ρ 18 = .int .i64 (i : Int) ∧ True) ⟨y2, y3, rfl, y16, y17, y18, trivial⟩ ?_
    rintro ρ ⟨z2, z3, z4, z16, z17, z18, -⟩
    refine rg (r (ad (a := (i : Int)) (b := 1) ((i : Int) + 1) z18 rfl (by omega)) (r (mv rfl) (re ?_)))
    have H13 : Hold w [] w14 [rB g1 25 ([.string s, .int .i64 z, v]), rB g2 85 (byts (List.replicate 64 0)), rB g3 85 (byts (nums8 s ++ List.replicate (64 - (nums8 s).length) 0)), rR knum 98 v26_14 ((inoV (nums8 s) z (xs.take i)) ++ [(2, xs[i])])] := (show Hold w [] w14 ([rB g1 25 ([.string s, .int .i64 z, v]), rB g2 85 (byts (List.replicate 64 0)), rB g3 85 (byts (nums8 s ++ List.replicate (64 - (nums8 s).length) 0)), rR knum 98 v26_14 ((inoV (nums8 s) z (xs.take i)) ++ [(2, xs[i])])] ++ [rB g25 98 ([.int .i64 2, .int .i64 (xs[i])])]) from Hold.re H12 [0, 1, 2, 3, 4] (by kernel_rfl) (by rfl)).drop
    clear H12
    exact ag (i + 1, v26_14) ⟨z3, z2, z16, z17, rfl, z4, (by rw [inoV_take hi']; exact H13), by omega⟩ (by first | omega | (dsimp only; omega))
  · obtain rfl : i = xs.length := by omega
    have H11 : Hold w [] w510 [rB g1 25 ([.string s, .int .i64 z, v]), rB g2 85 (byts (List.replicate 64 0)), rB g3 85 (byts (nums8 s ++ List.replicate (64 - (nums8 s).length) 0)), rR knum 98 o (inoV (nums8 s) z xs)] := (by rw [List.take_length] at H10; exact H10)
    clear H10
    have hv := inoV_len (nm := nums8 s) (sz := z) (ls := xs)
    have hV := inoV_in (nm := nums8 s) (z := z) (ls := xs) ⟨⟨o1, o2, o3⟩, o4, o5, o6, o7⟩
    refine ex rfl (sq ?_)
    refine rde mixed ?_
    intro w12 c12
    have H12 : Hold w [] w12 [rB g1 25 ([.string s, .int .i64 z, v]), rB g2 85 (byts (List.replicate 64 0)), rB g3 85 (byts (nums8 s ++ List.replicate (64 - (nums8 s).length) 0)), rR knum 98 o (inoV (nums8 s) z xs)] := Hold.t H11 c12
    clear H11
    clear c12
    have H13d0 : Hold w12 [] w12 [] := Hold.start w12
    refine ⟨fun w' => Ch [] w12 w', Ch.refl _ _, ?_⟩
    obtain ⟨_, R15⟩ : ∃ F, Kd.R knum w12 F o (inoV (nums8 s) z xs) := Hold.row H12 3 rfl
    refine edt 0 rfl (by kernel_rfl) (fun w' hS => slal (l := 16) Tryd.underlying85 ti5 y3 rfl (by omega)) (edt 1 rfl (by kernel_rfl) (fun w' hS => mv y4) (ed1 2 (by kernel_rfl) <| euc rfl go58 (ac rfl an) (bytesOf_H (R15.t (Hold.ch H13d0)) (by simp [inoV]; omega) hV) ?_))
    rintro r3 wb Hb
    have H13d : Hold w12 [] wb [rR u8 5 r3 (flat (inoV (nums8 s) z xs))] := Hold.news H13d0 Hb
    clear H13d0
    clear Hb
    refine ⟨.inr (Hold.ch H13d), ?_⟩
    have H14 : Hold w [] wb [rB g1 25 ([.string s, .int .i64 z, v]), rB g2 85 (byts (List.replicate 64 0)), rB g3 85 (byts (nums8 s ++ List.replicate (64 - (nums8 s).length) 0)), rR knum 98 o (inoV (nums8 s) z xs), rR u8 5 r3 (flat (inoV (nums8 s) z xs))] := Hold.news H12 H13d
    clear H13d H12
    have b16 : B wb g3 85 (byts (nums8 s ++ List.replicate (64 - (nums8 s).length) 0)) := Hold.blk H14 2 rfl
    obtain ⟨_, R18⟩ : ∃ F, Kd.R u8 wb F r3 (flat (inoV (nums8 s) z xs)) := Hold.row H14 4 rfl
    refine ed1 3 (by kernel_rfl) <| euf rfl (cpa (l := 16) (m := 64) Tryd.underlying22 ti5 rfl rfl b16 ⟨(by simp; omega), by omega⟩ R18) ?_
    rintro _ w17 ⟨rfl, -, b17, c17⟩
    have H15 : Hold w [] w17 [rB g1 25 ([.string s, .int .i64 z, v]), rB g2 85 (byts (List.replicate 64 0)), rB g3 85 (byts ((nums8 s ++ List.replicate (64 - (nums8 s).length) 0).take 16 ++ (flat (inoV (nums8 s) z xs)).take (64 - 16) ++ (nums8 s ++ List.replicate (64 - (nums8 s).length) 0).drop (16 + (flat (inoV (nums8 s) z xs)).length))), rR knum 98 o (inoV (nums8 s) z xs), rR u8 5 r3 (flat (inoV (nums8 s) z xs))] := Hold.setB H14 2 rfl b17 c17 rfl
    clear H14
    clear b17 c17
    refine ⟨.inl (by kernel_rfl), ?_⟩
    refine edd (by kernel_rfl) ?_
    have b19 : B w17 g3 85 (byts ((nums8 s ++ List.replicate (64 - (nums8 s).length) 0).take 16 ++ (flat (inoV (nums8 s) z xs)).take (64 - 16) ++ (nums8 s ++ List.replicate (64 - (nums8 s).length) 0).drop (16 + (flat (inoV (nums8 s) z xs)).length))) := Hold.blk H15 2 rfl
    have b20 : B w17 g2 85 (byts (List.replicate 64 0)) := Hold.blk H15 1 rfl
    refine sq (rg (r (laa Tryd.underlying85 rfl ti85 y3 b19 (by simp; omega)) (ef0 (xsta ti85 y2 rfl (by simp; omega) b20 (by simp)) ?_)))
    rintro w21 ⟨-, b21, c21⟩
    have H16 : Hold w [] w21 [rB g1 25 ([.string s, .int .i64 z, v]), rB g2 85 (byts ((nums8 s ++ List.replicate (64 - (nums8 s).length) 0).take 16 ++ (flat (inoV (nums8 s) z xs)).take (64 - 16) ++ (nums8 s ++ List.replicate (64 - (nums8 s).length) 0).drop (16 + (flat (inoV (nums8 s) z xs)).length))), rB g3 85 (byts ((nums8 s ++ List.replicate (64 - (nums8 s).length) 0).take 16 ++ (flat (inoV (nums8 s) z xs)).take (64 - 16) ++ (nums8 s ++ List.replicate (64 - (nums8 s).length) 0).drop (16 + (flat (inoV (nums8 s) z xs)).length))), rR knum 98 o (inoV (nums8 s) z xs), rR u8 5 r3 (flat (inoV (nums8 s) z xs))] := Hold.setB H15 1 rfl b21 c21 rfl
    clear H15
    clear b21 c21
    refine re (rt ?_)
    have e2 : (nums8 s ++ List.replicate (64 - (nums8 s).length) 0).take 16 ++ (flat (inoV (nums8 s) z xs)).take (64 - 16) ++ (nums8 s ++ List.replicate (64 - (nums8 s).length) 0).drop (16 + (flat (inoV (nums8 s) z xs)).length) = encI (nums8 s) z xs := by
      exact mix_16 o3 (by omega)
    have hL := encI_len (nm := nums8 s) (sz := z) (ls := xs) ⟨⟨o1, o2, o3⟩, o4, o5, o6, o7⟩
    have H17 : Hold w [] w21 [rB g1 25 ([.string s, .int .i64 z, v]), rB g2 85 (byts (encI (nums8 s) z xs)), rB g3 85 (byts (encI (nums8 s) z xs)), rR knum 98 o (inoV (nums8 s) z xs), rR u8 5 r3 (flat (inoV (nums8 s) z xs))] := (by rw [e2] at H16; exact H16)
    clear H16
    have b22 : B w21 g2 85 (byts (encI (nums8 s) z xs)) := Hold.blk H17 1 rfl
    exact finc  (cs := byts (encI (nums8 s) z xs)) Tryd.results47 Tryd.underlying85 rfl ti85 y2 b22 (by simp [byts, hL])  ⟨rfl, Hold.ch H17⟩
theorem impl_EncodeInode {w : World} {F : List Nat} {s : ByteArray} {z : Int} {v : Value} {xs : List Int} (hs : s.size ≤ 9223372036854775807) (hx : i64.R w F v xs) (lx : xs.length ≤ 1000000000) : Ret Tryd.prog 16 #[.agg #[.string s, .int .i64 z, v]] w (fun r w' => ∃ e, Hold w [] w' [rR u8 e r (encIno (nums8 s) z xs)]) := by
  refine enter Tryd.func16 rfl Tryd.ntmps16 (by rfl) (by rfl) ?_
  have H0 : Hold w [] w [] := Hold.start w
  have hn := nums8_len s
  refine sq (rg (ef (xbx (t := 25) rfl rfl) ?_))
  rintro _ w1 ⟨g1, e1, rfl, -, b1, c1⟩
  have H1 : Hold w [] w1 [rB g1 25 ([.string s, .int .i64 z, v])] := Hold.newB H0 e1 b1 c1
  clear H0
  clear e1 b1 c1
  have b2 : B w1 g1 25 ([.string s, .int .i64 z, v]) := Hold.blk H1 0 rfl
  refine r (sa rfl) (re (sq (sq (rg (r (lab [.string s, .int .i64 z, v] Tryd.underlying25 rfl ti25 rfl b2 rfl rfl) (cl go46 (Inode_valid hs (hx.t (Hold.ch H1)) lx) (ac rfl an) ?_))))))
  rintro r wv ⟨rfl, cv⟩
  have H2 : Hold w [] wv [rB g1 25 ([.string s, .int .i64 z, v])] := Hold.t H1 cv
  clear H1
  clear cv
  refine r (nt rfl) (re ?_)
  refine cpn rfl (fun h1 => ?_) (fun h1 => ?_)
  · rw [show encIno (nums8 s) z xs = [] from if_neg h1]
    have H3 : Hold w [] wv [rB g1 25 ([.string s, .int .i64 z, v]), rR u8 5 (.slice none 0 0) ([])] := Hold.nilrow u8 5 H2
    clear H2
    refine sq (rg (r (sa rfl) (re (rt ?_))))
    have H4 : Hold w [] wv [rR u8 5 (.slice none 0 0) ([])] := (show Hold w [] wv ([rR u8 5 (.slice none 0 0) ([])] ++ [rB g1 25 ([.string s, .int .i64 z, v])]) from Hold.re H3 [1, 0] (by kernel_rfl) (by rfl)).drop
    clear H3
    exact fin1 (v := .slice none 0 0) Tryd.results16 rfl ⟨5, H4⟩
  · have h1' : inoOk (nums8 s) z xs := by simpa using h1
    rw [show encIno (nums8 s) z xs = encI (nums8 s) z xs from if_pos h1']
    have hL := encI_len h1'
    have b4 : B wv g1 25 ([.string s, .int .i64 z, v]) := Hold.blk H2 0 rfl
    refine sk (sq (rg (r (lab [.string s, .int .i64 z, v] Tryd.underlying25 rfl ti25 rfl b4 rfl rfl) (cl go47 (Inode_block hs (hx.t (Hold.ch H2)) lx h1') (ac rfl an) ?_))))
    rintro r wb ⟨rfl, cb⟩
    have H3 : Hold w [] wb [rB g1 25 ([.string s, .int .i64 z, v])] := Hold.t H2 cb
    clear H2
    clear cb
    refine ef (xal ti85) ?_
    rintro _ w6 ⟨g3, e6, rfl, -, b6, c6⟩
    have H4 : Hold w [] w6 [rB g1 25 ([.string s, .int .i64 z, v]), rB g3 85 (byts (List.replicate 64 0))] := Hold.newB H3 e6 b6 c6
    clear H3
    clear e6 b6 c6
    have b7 : B w6 g3 85 (byts (List.replicate 64 0)) := Hold.blk H4 1 rfl
    refine ef0 (xsta ti85 rfl rfl hL b7 (by simp)) ?_
    rintro w8 ⟨-, b8, c8⟩
    have H5 : Hold w [] w8 [rB g1 25 ([.string s, .int .i64 z, v]), rB g3 85 (byts (encI (nums8 s) z xs))] := Hold.setB H4 1 rfl b8 c8 rfl
    clear H4
    clear b8 c8
    refine re (sq (rg (r (sla Tryd.underlying85 ti5 rfl) (r (sa rfl) (re (rt ?_))))))
    have H6 : Hold w [] w8 [rB g3 85 (byts (encI (nums8 s) z xs))] := (show Hold w [] w8 ([rB g3 85 (byts (encI (nums8 s) z xs))] ++ [rB g1 25 ([.string s, .int .i64 z, v])]) from Hold.re H5 [1, 0] (by kernel_rfl) (by rfl)).drop
    clear H5
    have H7 : Hold w [] w8 [rR u8 85 (.slice (some ⟨g3, 0, none⟩) 64 64) (encI (nums8 s) z xs)] := Hold.asrow (dk := u8) (xs := encI (nums8 s) z xs) (m := 64) H6 0 rfl (els_int (encI (nums8 s) z xs)) ⟨hL, Nat.le_of_ble_eq_true rfl⟩ rfl
    clear H6
    exact fin1 (v := .slice (some ⟨g3, 0, none⟩) 64 64) Tryd.results16 rfl ⟨85, H7⟩
theorem spec_EncodeInode {w : World} {F : List Nat} {s : ByteArray} {z : Int} {v : Value} {xs : List Int} (hs : s.size ≤ 9223372036854775807) (hx : i64.R w F v xs) (lx : xs.length ≤ 1000000000) : Ret Tryd.prog 17 #[.agg #[.string s, .int .i64 z, v]] w (fun r w' => ∃ e, Hold w [] w' [rR u8 e r (encIno (nums8 s) z xs)]) := by
  refine enter Tryd.func17 rfl Tryd.ntmps17 (by rfl) (by rfl) ?_
  have H0 : Hold w [] w [] := Hold.start w
  have hn := nums8_len s
  refine sq (rg (ef (xbx (t := 25) rfl rfl) ?_))
  rintro _ w1 ⟨g1, e1, rfl, -, b1, c1⟩
  have H1 : Hold w [] w1 [rB g1 25 ([.string s, .int .i64 z, v])] := Hold.newB H0 e1 b1 c1
  clear H0
  clear e1 b1 c1
  have b2 : B w1 g1 25 ([.string s, .int .i64 z, v]) := Hold.blk H1 0 rfl
  refine r (sa rfl) (re (sq (sq (rg (r (lab [.string s, .int .i64 z, v] Tryd.underlying25 rfl ti25 rfl b2 rfl rfl) (cl go53 (l2ValidInode hs (hx.t (Hold.ch H1)) lx) (ac rfl an) ?_))))))
  rintro r wv ⟨rfl, cv⟩
  have H2 : Hold w [] wv [rB g1 25 ([.string s, .int .i64 z, v])] := Hold.t H1 cv
  clear H1
  clear cv
  refine r (nt rfl) (re ?_)
  refine cpn rfl (fun h1 => ?_) (fun h1 => ?_)
  · rw [show encIno (nums8 s) z xs = [] from if_neg h1]
    refine sq (rg (ef (xbs0 (dk := u8) Tryd.underlying22 ti5) ?_))
    rintro v4 w4 N4
    have H3 : Hold w [] w4 [rB g1 25 ([.string s, .int .i64 z, v]), rR u8 5 v4 ([])] := Hold.newr H2 N4
    clear H2
    refine r (sa rfl) (re (rt ?_))
    have H4 : Hold w [] w4 [rR u8 5 v4 ([])] := (show Hold w [] w4 ([rR u8 5 v4 ([])] ++ [rB g1 25 ([.string s, .int .i64 z, v])]) from Hold.re H3 [1, 0] (by kernel_rfl) (by rfl)).drop
    clear H3
    exact fin1 (v := v4) Tryd.results17 rfl ⟨5, H4⟩
  · have h1' : inoOk (nums8 s) z xs := by simpa using h1
    rw [show encIno (nums8 s) z xs = encI (nums8 s) z xs from if_pos h1']
    have hL := encI_len h1'
    obtain ⟨⟨o1, o2, o3⟩, o4, o5, o6, o7⟩ := h1'
    have b4 : B wv g1 25 ([.string s, .int .i64 z, v]) := Hold.blk H2 0 rfl
    refine sk (sq (rg (r (fa Tryd.underlying25 rfl ti9 rfl rfl) (r (ldb Tryd.underlying9 rfl rfl b4 rfl) (ef (cvsb Tryd.underlying9 Tryd.underlying22 Tryd.underlying5 rfl) ?_)))))
    rintro v5 w5 ⟨⟨g5, e5, -, R5⟩, c5⟩
    have H3 : Hold w [] w5 [rB g1 25 ([.string s, .int .i64 z, v]), rT v5 (nums8 s)] := Hold.newT H2 e5 R5 c5
    clear H2
    obtain ⟨_, T7⟩ := Hold.text H3 1 rfl
    refine cl go54 (l2Pad_H (n := 16) T7 (by omega) (by omega)) (ac rfl (ac rfl an)) ?_
    rintro r1 wp Hp
    have H4 : Hold w [] wp [rB g1 25 ([.string s, .int .i64 z, v]), rT v5 (nums8 s), rR u8 5 r1 (nums8 s ++ List.replicate (16 - (nums8 s).length) 0)] := Hold.news H3 Hp
    clear H3
    clear Hp
    refine r (sa rfl) (re (sq ?_))
    refine gen (fun ρ => ρ 1 = .pointer (some ⟨g1, 0, none⟩) ∧ ρ 2 = .slice none 0 0 ∧ ρ 3 = r1 ∧ True) ⟨rfl, rfl, rfl, trivial⟩ ?_
    rintro ρ ⟨z1, z2, z3, -⟩
    have b8 : B wp g1 25 ([.string s, .int .i64 z, v]) := Hold.blk H4 0 rfl
    refine rg (r (mv z3) (r (fa Tryd.underlying25 rfl ti2 rfl z1) (r (ldb Tryd.underlying2 rfl rfl b8 rfl) (cl go55 (l2Big_H (n := 2) (v := z) (by omega) (by omega)) (ac rfl (ac rfl an)) ?_))))
    rintro r2 wb Hb
    have H5 : Hold w [] wb [rB g1 25 ([.string s, .int .i64 z, v]), rT v5 (nums8 s), rR u8 5 r1 (nums8 s ++ List.replicate (16 - (nums8 s).length) 0), rR u8 5 r2 (big z 2)] := Hold.news H4 Hb
    clear H4
    clear Hb
    obtain ⟨_, R11⟩ : ∃ F, Kd.R u8 wb F r2 (big z 2) := Hold.row H5 3 rfl
    obtain ⟨F12, P12, n12, s12, K12⟩ := Hold.pick H5 2 rfl
    replace P12 : Kd.W u8 5 wb F12 r1 (nums8 s ++ List.replicate (16 - (nums8 s).length) 0) := P12
    refine ef (aps Tryd.underlying22 ti5 rfl (flat_int _) rfl rfl P12 (R11) n12 (by simp [big_len]; omega)) ?_
    rintro v17_10 w10 ⟨F10, A10⟩
    have H6 : Hold w [] w10 [rB g1 25 ([.string s, .int .i64 z, v]), rT v5 (nums8 s), rR u8 5 v17_10 ((nums8 s ++ List.replicate (16 - (nums8 s).length) 0) ++ (big z 2)), rR u8 5 r2 (big z 2)] := Hold.apd K12 P12 A10 rfl
    clear H5
    clear A10 K12 P12 n12 s12
    refine r (sa rfl) (re (sq (sq (rg (r (sa rfl) (re (bl ?_)))))))
    have H7 : Hold w [] w10 [rB g1 25 ([.string s, .int .i64 z, v]), rR u8 5 v17_10 ((nums8 s ++ List.replicate (16 - (nums8 s).length) 0) ++ (big z 2))] := (show Hold w [] w10 ([rB g1 25 ([.string s, .int .i64 z, v]), rR u8 5 v17_10 ((nums8 s ++ List.replicate (16 - (nums8 s).length) 0) ++ (big z 2))] ++ [rT v5 (nums8 s), rR u8 5 r2 (big z 2)]) from Hold.re H6 [0, 2, 1, 3] (by kernel_rfl) (by rfl)).drop
    clear H6
    refine lp (α := Nat × Value) (fun (i, o) ρ w' => ρ 1 = .pointer (some ⟨g1, 0, none⟩) ∧ ρ 4 = .int .i64 (i : Int) ∧ ρ 3 = o ∧ Hold w [] w' [rB g1 25 ([.string s, .int .i64 z, v]), rR u8 5 o ((nums8 s ++ List.replicate (16 - (nums8 s).length) 0) ++ flat (inoV (nums8 s) z (xs.take i)))] ∧ i ≤ xs.length) (fun (i, o) => xs.length - i) (0, v17_10) ?_ ?_
    · exact ⟨z1, rfl, rfl, (by simpa [inoV, flat] using H7), by omega⟩
    clear H7
    rintro ⟨i, o⟩ ρ w508 ⟨y1, y4, y3, H8, hi⟩
    have b13 : B w508 g1 25 ([.string s, .int .i64 z, v]) := Hold.blk H8 0 rfl
    refine sq (sq (rg (r (mv y4) (r (fa Tryd.underlying25 rfl ti23 rfl y1) (r (ldb Tryd.underlying23 rfl rfl b13 rfl) (r (ln Tryd.underlying23 rfl ((hx.t (Hold.ch H8)))) (r (bi rfl rfl rfl) (re ?_))))))))
    refine cp rfl (fun h => ?_) (fun h => ?_)
    · have hi' : i < xs.length := by omega
      have hv := inoV_len (nm := nums8 s) (sz := z) (ls := xs.take i)
      have hb := o7 _ (List.getElem_mem hi')
      refine sk (sq (bl (rg (r (mv y3) (r (fa Tryd.underlying25 rfl ti23 rfl y1) (r (ldb Tryd.underlying23 rfl rfl b13 rfl) (r (mv y4) ?_)))))))
      obtain ⟨c29_14, ad29_14, k29_14, e29_14, p29_14⟩ := Kd.R.place hx i (by omega)
      refine r (ix (j := i) Tryd.underlying23 ti2 e29_14 rfl (by omega)) (r (ld Tryd.underlying2 rfl rfl (Ch.cell (Hold.ch H8) p29_14.cell)) (cl go55 (l2Big_H (n := 2) (v := xs[i]) (by omega) (by omega)) (ac rfl (ac rfl an)) ?_))
      rintro r2 wb Hb
      have H9 : Hold w [] wb [rB g1 25 ([.string s, .int .i64 z, v]), rR u8 5 o ((nums8 s ++ List.replicate (16 - (nums8 s).length) 0) ++ flat (inoV (nums8 s) z (xs.take i))), rR u8 5 r2 (big xs[i] 2)] := Hold.news H8 Hb
      clear H8
      clear Hb
      obtain ⟨_, R17⟩ : ∃ F, Kd.R u8 wb F r2 (big xs[i] 2) := Hold.row H9 2 rfl
      obtain ⟨F18, P18, n18, s18, K18⟩ := Hold.pick H9 1 rfl
      replace P18 : Kd.W u8 5 wb F18 o ((nums8 s ++ List.replicate (16 - (nums8 s).length) 0) ++ flat (inoV (nums8 s) z (xs.take i))) := P18
      refine ef (aps Tryd.underlying22 ti5 rfl (flat_int _) rfl rfl P18 (R17) n18 (by simp only [List.length_append, List.length_replicate, hv, big_len, List.length_take]; omega)) ?_
      rintro v32_16 w16 ⟨F16, A16⟩
      have H10 : Hold w [] w16 [rB g1 25 ([.string s, .int .i64 z, v]), rR u8 5 v32_16 (((nums8 s ++ List.replicate (16 - (nums8 s).length) 0) ++ flat (inoV (nums8 s) z (xs.take i))) ++ (big xs[i] 2)), rR u8 5 r2 (big xs[i] 2)] := Hold.apd K18 P18 A16 rfl
      clear H9
      clear A16 K18 P18 n18 s18
      refine r (sa rfl) (re (be ?_))
      refine gen (fun ρ => ρ 1 = .pointer (some ⟨g1, 0, none⟩) ∧ ρ 3 = v32_16 ∧ ρ 4 = .int .i64 (i : Int) ∧ True) ⟨y1, rfl, y4, trivial⟩ ?_
      rintro ρ ⟨z1, z3, z4, -⟩
      refine rg (r (mv z4) (r (ad (a := (i : Int)) (b := 1) ((i : Int) + 1) rfl rfl (by omega)) (r (sa rfl) (re ?_))))
      have H11 : Hold w [] w16 [rB g1 25 ([.string s, .int .i64 z, v]), rR u8 5 v32_16 (((nums8 s ++ List.replicate (16 - (nums8 s).length) 0) ++ flat (inoV (nums8 s) z (xs.take i))) ++ (big xs[i] 2))] := (show Hold w [] w16 ([rB g1 25 ([.string s, .int .i64 z, v]), rR u8 5 v32_16 (((nums8 s ++ List.replicate (16 - (nums8 s).length) 0) ++ flat (inoV (nums8 s) z (xs.take i))) ++ (big xs[i] 2))] ++ [rR u8 5 r2 (big xs[i] 2)]) from Hold.re H10 [0, 1, 2] (by kernel_rfl) (by rfl)).drop
      clear H10
      exact ag (i + 1, v32_16) ⟨z1, rfl, z3, (by rw [flatV_take hi', ← List.append_assoc]; exact H11), by omega⟩ (by first | omega | (dsimp only; omega))
    · obtain rfl : i = xs.length := by omega
      have hv := inoV_len (nm := nums8 s) (sz := z) (ls := xs)
      have H9 : Hold w [] w508 [rB g1 25 ([.string s, .int .i64 z, v]), rR u8 5 o ((nums8 s ++ List.replicate (16 - (nums8 s).length) 0) ++ flat (inoV (nums8 s) z xs))] := (by rw [List.take_length] at H8; exact H8)
      clear H8
      obtain ⟨_, R15⟩ : ∃ F, Kd.R u8 w508 F o ((nums8 s ++ List.replicate (16 - (nums8 s).length) 0) ++ flat (inoV (nums8 s) z xs)) := Hold.row H9 1 rfl
      refine ex rfl (sq (rg (r (mv y3) (cl go54 (l2Pad_H (n := 64) R15 (by simp only [List.length_append, List.length_replicate, hv]; omega) (by omega)) (ac rfl (ac rfl an)) ?_))))
      rintro r4 wp Hp
      have H10 : Hold w [] wp [rB g1 25 ([.string s, .int .i64 z, v]), rR u8 5 o ((nums8 s ++ List.replicate (16 - (nums8 s).length) 0) ++ flat (inoV (nums8 s) z xs)), rR u8 5 r4 (((nums8 s ++ List.replicate (16 - (nums8 s).length) 0) ++ flat (inoV (nums8 s) z xs)) ++ List.replicate (64 - ((nums8 s ++ List.replicate (16 - (nums8 s).length) 0) ++ flat (inoV (nums8 s) z xs)).length) 0)] := Hold.news H9 Hp
      clear H9
      clear Hp
      refine r (sa rfl) (re (rt ?_))
      have H11 : Hold w [] wp [rR u8 5 r4 (((nums8 s ++ List.replicate (16 - (nums8 s).length) 0) ++ flat (inoV (nums8 s) z xs)) ++ List.replicate (64 - ((nums8 s ++ List.replicate (16 - (nums8 s).length) 0) ++ flat (inoV (nums8 s) z xs)).length) 0)] := (show Hold w [] wp ([rR u8 5 r4 (((nums8 s ++ List.replicate (16 - (nums8 s).length) 0) ++ flat (inoV (nums8 s) z xs)) ++ List.replicate (64 - ((nums8 s ++ List.replicate (16 - (nums8 s).length) 0) ++ flat (inoV (nums8 s) z xs)).length) 0)] ++ [rB g1 25 ([.string s, .int .i64 z, v]), rR u8 5 o ((nums8 s ++ List.replicate (16 - (nums8 s).length) 0) ++ flat (inoV (nums8 s) z xs))]) from Hold.re H10 [2, 0, 1] (by kernel_rfl) (by rfl)).drop
      clear H10
      have e4 : ((nums8 s ++ List.replicate (16 - (nums8 s).length) 0) ++ flat (inoV (nums8 s) z xs)) ++ List.replicate (64 - ((nums8 s ++ List.replicate (16 - (nums8 s).length) 0) ++ flat (inoV (nums8 s) z xs)).length) 0 = encI (nums8 s) z xs := by
        rw [encI]; congr 2; simp only [List.length_append, List.length_replicate]; omega
      have H12 : Hold w [] wp [rR u8 5 r4 (encI (nums8 s) z xs)] := (by rw [e4] at H11; exact H11)
      clear H11
      exact fin1 (v := r4) Tryd.results17 rfl ⟨5, H12⟩
end Go.Proofs.YtgpcanjmgdmdhaaDoor
