/-
  CONTRACTS 39: a disk is written. No condition.
-/
import Derived.Test.Ytgpcanjmgdmdhaa38
namespace Go.Proofs.Ytgpcanjmgdmdhaa
open Go Go.Eng
set_option maxRecDepth 100000
set_option maxHeartbeats 4000000
set_option linter.unusedVariables false
set_option linter.unusedSimpArgs false
abbrev Dsk := List Int × List Wr
abbrev dwOk (xs : List Int) (ps : List Wr) (b : Int) (ys : List Int) : Prop := vdisk xs ps = true ∧ ps.length ≠ 400 ∧ 0 ≤ b ∧ b < blks xs ∧ ys.length = 64
def dwD (xs : List Int) (ps : List Wr) (b : Int) (ys : List Int) : Dsk := if dwOk xs ps b ys then (xs, ps ++ [(b, ys)]) else ([], [])
theorem dwD_yes {xs : List Int} {ps : List Wr} {b : Int} {ys : List Int} (h : dwOk xs ps b ys) : dwD xs ps b ys = (xs, ps ++ [(b, ys)]) := if_pos h
theorem dwD_no {xs : List Int} {ps : List Wr} {b : Int} {ys : List Int} (h : ¬ dwOk xs ps b ys) : dwD xs ps b ys = ([], []) := if_neg h
theorem szW_64 {ps : List Wr} (h : ∀ x, x ∈ ps → x.2.length = 64) : szW ps = 65 * ps.length := by
  induction ps with
  | nil => rfl
  | cons x ps ih => simp only [szW, List.length_cons]; rw [ih (fun y hy => h y (by simp [hy])), h x (by simp)]; omega
/-- What a law wants to know of a disk's lengths. -/
structure Sm (D : Dsk) : Prop where
  x : D.1.length ≤ 1000000
  p : D.2.length ≤ 1000000
  xx : ∀ x, x ∈ D.2 → x.2.length ≤ 1000000000
  sz : szW D.2 ≤ 1000000
theorem Sm.nil : Sm ([], []) := ⟨by simp, by simp, by simp, by simp [szW]⟩
theorem Sm.of {xs : List Int} {ps : List Wr} (h : xs.length ≤ 76800) (hp : ps.length ≤ 401) (h64 : ∀ x, x ∈ ps → x.2.length = 64) : Sm (xs, ps) := ⟨by dsimp only; omega, by dsimp only; omega, fun x hx => by rw [h64 x hx]; omega, by rw [szW_64 h64]; omega⟩
theorem VD.len2 {xs : List Int} {ps : List Wr} (h : VD xs ps) : xs.length ≤ 76800 := by have := h.len; have := h.top; omega
theorem VD.h64 {xs : List Int} {ps : List Wr} (h : VD xs ps) : ∀ x, x ∈ ps → x.2.length = 64 := fun x hx => (h.ok x hx).2.2
theorem dwD_sm {xs : List Int} {ps : List Wr} {b : Int} {ys : List Int} : Sm (dwD xs ps b ys) := by
  unfold dwD; split
  · rename_i h
    have V := VD.of h.1
    have := V.num
    exact Sm.of V.len2 (by simp; omega) (fun x hx => by
      rcases List.mem_append.1 hx with hx | hx
      · exact V.h64 x hx
      · rw [List.mem_singleton.1 hx]; exact h.2.2.2.2)
  · exact Sm.nil
theorem l1CopyDisk {w : World} {F G : List Nat} {v u : Value} {xs : List Int} {ps : List Wr} (hx : u8.R w F v xs) (hp : kW.R w G u ps) (lx : xs.length ≤ 1000000000) (hlp : ps.length ≤ 2000000) (lxx : ∀ x, x ∈ ps → x.2.length ≤ 1000000000) : Ret Try.prog 137 #[.agg #[v, u]] w (fun r w' => ∃ a c, r = .agg #[a, c] ∧ Hold w [] w' [rR u8 5 a xs, rR kW 112 c ps]) := by
  refine enter Try.func137 rfl Try.ntmps137 (by rfl) (by rfl) ?_
  have H0 : Hold w [] w [] := Hold.start w
  refine sq (rg (ef (xbx (t := 49) rfl rfl) ?_))
  rintro _ w1 ⟨g1, e1, rfl, -, b1, c1⟩
  have H1 : Hold w [] w1 [rB g1 49 ([v, u])] := Hold.newB H0 e1 b1 c1
  clear H0
  clear e1 b1 c1
  refine ef (xal ti49) ?_
  rintro _ w2 ⟨g2, e2, rfl, -, b2, c2⟩
  have H2 : Hold w [] w2 [rB g1 49 ([v, u]), rB g2 49 ([.slice none 0 0, .slice none 0 0])] := Hold.newB H1 e2 b2 c2
  clear H1
  clear e2 b2 c2
  have b3 : B w2 g1 49 ([v, u]) := Hold.blk H2 0 rfl
  refine re (sq (rg (r (fa Try.underlying49 rfl ti40 rfl rfl) (r (ldb Try.underlying40 rfl rfl b3 rfl) (cl go130 (l1Copy_H (hx.t (Hold.ch H2)) lx) (ac rfl an) ?_)))))
  rintro r3 wc Hc
  have H3 : Hold w [] wc [rB g1 49 ([v, u]), rB g2 49 ([.slice none 0 0, .slice none 0 0]), rR u8 5 r3 xs] := Hold.news H2 Hc
  clear H2
  clear Hc
  obtain ⟨_, R5⟩ : ∃ F, Kd.R u8 wc F r3 xs := Hold.row H3 2 rfl
  refine r (bd (r := [r3, .slice none 0 0]) ti49 pl49 (pc rfl (cel1 (R5).oneCell) pn) rfl) (ef (xal ti49) ?_)
  rintro _ w6 ⟨g3, e6, rfl, -, b6, c6⟩
  have H4 : Hold w [] w6 [rB g1 49 ([v, u]), rB g2 49 ([.slice none 0 0, .slice none 0 0]), rR u8 5 r3 xs, rB g3 49 ([.slice none 0 0, .slice none 0 0])] := Hold.newB H3 e6 b6 c6
  clear H3
  clear e6 b6 c6
  have b7 : B w6 g3 49 ([.slice none 0 0, .slice none 0 0]) := Hold.blk H4 3 rfl
  obtain ⟨_, R9⟩ : ∃ F, Kd.R u8 w6 F r3 xs := Hold.row H4 2 rfl
  refine ef0 (xst (vs := [r3, .slice none 0 0]) ti49 rfl rfl rfl b7 rfl (Nat.le_of_ble_eq_true rfl) (oc (R9).oneCell (oc rfl on))) ?_
  rintro w8 ⟨-, b8, c8⟩
  have H5 : Hold w [] w8 [rB g1 49 ([v, u]), rB g2 49 ([.slice none 0 0, .slice none 0 0]), rR u8 5 r3 xs, rB g3 49 ([r3, .slice none 0 0])] := Hold.setB H4 3 rfl b8 c8 rfl
  clear H4
  clear b8 c8
  refine re (sq (sq (rg (r (sa rfl) (re (bl ?_))))))
  have H6 : Hold w [] w8 [rB g1 49 ([v, u]), rB g2 49 ([.slice none 0 0, .slice none 0 0]), rR u8 5 r3 xs, rB g3 49 ([r3, .slice none 0 0]), rR kW 112 (.slice none 0 0) ([])] := Hold.nilrow kW 112 H5
  clear H5
  refine lp (α := Nat × Value) (fun (k, o) ρ w' => ρ 1 = .pointer (some ⟨g1, 0, none⟩) ∧ ρ 2 = .pointer (some ⟨g2, 0, none⟩) ∧ ρ 3 = .pointer (some ⟨g3, 0, none⟩) ∧ ρ 4 = .int .i64 (k : Int) ∧ Hold w [] w' [rB g1 49 ([v, u]), rB g2 49 ([.slice none 0 0, .slice none 0 0]), rR u8 5 r3 xs, rB g3 49 ([r3, o]), rR kW 112 o (ps.take k)] ∧ k ≤ ps.length) (fun (k, o) => ps.length - k) (0, .slice none 0 0) ?_ ?_
  · exact ⟨rfl, rfl, rfl, rfl, H6, by omega⟩
  clear H6
  rintro ⟨k, o⟩ ρ w507 ⟨y1, y2, y3, y4, H7, hk⟩
  have b10 : B w507 g1 49 ([v, u]) := Hold.blk H7 0 rfl
  refine sq (sq (rg (r (mv y4) (r (fa Try.underlying49 rfl ti47 rfl y1) (r (ldb Try.underlying47 rfl rfl b10 rfl) (r (ln Try.underlying47 rfl ((hp.t (Hold.ch H7)))) (r (bi rfl rfl rfl) (re ?_))))))))
  refine cp rfl (fun h => ?_) (fun h => ?_)
  · have hk' : k < ps.length := by omega
    have hl := lxx _ (List.getElem_mem hk')
    refine sk (sq (bl ?_))
    refine rde mixed ?_
    intro w11 c11
    have H8 : Hold w [] w11 [rB g1 49 ([v, u]), rB g2 49 ([.slice none 0 0, .slice none 0 0]), rR u8 5 r3 xs, rB g3 49 ([r3, o]), rR kW 112 o (ps.take k)] := Hold.t H7 c11
    clear H7
    clear c11
    have H9 : Hold w [] w11 [rR kW 112 o (ps.take k), rB g1 49 ([v, u]), rB g2 49 ([.slice none 0 0, .slice none 0 0]), rR u8 5 r3 xs, rB g3 49 ([r3, o])] := Hold.re H8 [4, 0, 1, 2, 3] (by kernel_rfl) (by rfl)
    clear H8
    obtain ⟨Fd12, hFd12, nd12, Kd12, Xd12, sd12⟩ := Hold.frontx (Γ := [rR kW 112 o (ps.take k)]) (Δ := [rB g1 49 ([v, u]), rB g2 49 ([.slice none 0 0, .slice none 0 0]), rR u8 5 r3 xs, rB g3 49 ([r3, o])]) H9
    have H12d0 : Hold w11 Fd12 w11 [rR kW 112 o (ps.take k)] := Hold.begin hFd12 nd12
    refine ⟨fun w' => Ch Fd12 w11 w', Ch.refl _ _, ?_⟩
    obtain ⟨_, ⟨rfl, b13⟩, x13⟩ := Xd12 3 (rB g3 49 ([r3, o])) rfl
    obtain ⟨_, ⟨rfl, b14⟩, x14⟩ := Xd12 0 (rB g1 49 ([v, u])) rfl
    refine edt 0 rfl (by kernel_rfl) (fun w' hS => fa Try.underlying49 rfl ti47 rfl y3) (edt 1 rfl (by kernel_rfl) (fun w' hS => ldb Try.underlying47 rfl rfl (hS.b b13 (x13 _ (by simp))) rfl) (edt 2 rfl (by kernel_rfl) (fun w' hS => fa Try.underlying49 rfl ti47 rfl y1) (edt 3 rfl (by kernel_rfl) (fun w' hS => ldb Try.underlying47 rfl rfl (hS.b b14 (x14 _ (by simp))) rfl) (edt 4 rfl (by kernel_rfl) (fun w' hS => mv y4) ?_))))
    obtain ⟨c21_15, ad21_15, k21_15, e21_15, p21_15⟩ := Kd.R.place hp k (by omega)
    obtain ⟨vd21_15, Fd21_15, Rd21_15, sd21_15, q21_15⟩ := wr_at p21_15
    refine edt 5 rfl (by kernel_rfl) (fun w' hS => ix (j := k) Try.underlying47 ti112 e21_15 rfl (by omega)) (edt 6 rfl (by kernel_rfl) (fun w' hS => fa' Try.underlying112 rfl ti2 rfl rfl) (edt 7 rfl (by kernel_rfl) (fun w' hS => ld Try.underlying2 rfl rfl (Ch.cellN hS sd12 (Hold.ch H9) (q21_15 0 _ rfl))) (edt 8 rfl (by kernel_rfl) (fun w' hS => fa Try.underlying49 rfl ti47 rfl y1) (edt 9 rfl (by kernel_rfl) (fun w' hS => ldb Try.underlying47 rfl rfl (hS.b b14 (x14 _ (by simp))) rfl) (edt 10 rfl (by kernel_rfl) (fun w' hS => mv y4) ?_)))))
    obtain ⟨c27_16, ad27_16, k27_16, e27_16, p27_16⟩ := Kd.R.place hp k (by omega)
    obtain ⟨vd27_16, Fd27_16, Rd27_16, sd27_16, q27_16⟩ := wr_at p27_16
    refine edt 11 rfl (by kernel_rfl) (fun w' hS => ix (j := k) Try.underlying47 ti112 e27_16 rfl (by omega)) (edt 12 rfl (by kernel_rfl) (fun w' hS => fa' Try.underlying112 rfl ti40 rfl rfl) (edt 13 rfl (by kernel_rfl) (fun w' hS => ld Try.underlying40 rfl rfl (Ch.cellN hS sd12 (Hold.ch H9) (q27_16 1 _ rfl))) (ed1 14 (by kernel_rfl) <| euc rfl go130 (ac rfl an) (l1Copy_H ((Rd27_16.t (Hold.ch H9)).tt (Hold.ch H12d0) (dis_of0 Rd27_16.lt sd12)) hl) ?_)))
    rintro r4 wc2 Hc2
    have H10d : Hold w11 Fd12 wc2 [rR kW 112 o (ps.take k), rR u8 5 r4 (ps[k].2)] := Hold.news H12d0 Hc2
    clear H12d0
    clear Hc2
    refine ⟨.inr (Hold.ch H10d), ?_⟩
    obtain ⟨_, R18⟩ : ∃ F, Kd.R u8 wc2 F r4 (ps[k].2) := Hold.row H10d 1 rfl
    refine ed1 15 (by kernel_rfl) <| eur rfl (bd (r := [.int .i64 ((ps[k]).1), r4]) ti112 pl112 (pc rfl (cel1 rfl) (pc rfl (cel1 (R18).oneCell) pn)) rfl) (.inr (Hold.ch H10d)) (ed1 16 (by kernel_rfl) <| euf rfl (xbs1 (cs := [.int .i64 ((ps[k]).1), r4]) Try.underlying47 ti112 rfl rfl rfl rfl rfl) ?_)
    rintro _ w19 ⟨g32, e19, rfl, -, b19, c19⟩
    have H11d : Hold w11 Fd12 w19 [rR kW 112 o (ps.take k), rR u8 5 r4 (ps[k].2), rB g32 112 ([.int .i64 ((ps[k]).1), r4])] := Hold.newB H10d e19 b19 c19
    clear H10d
    clear e19 b19 c19
    refine ⟨.inr (Hold.ch H11d), ?_⟩
    have b21 : B w19 g32 112 ([.int .i64 ((ps[k]).1), r4]) := Hold.blk H11d 2 rfl
    obtain ⟨F22, hF22, n22, s22, K22⟩ := Hold.front (Γ := [rR kW 112 o (ps.take k), rR u8 5 r4 (ps[k].2)]) (Δ := [rB g32 112 ([.int .i64 ((ps[k]).1), r4])]) H11d
    obtain ⟨Fa22, _, rfl, Wa22, Fb22, _, rfl, Wb22, rfl⟩ := hF22
    replace Wa22 : Kd.W kW 112 w19 Fa22 o (ps.take k) := Wa22
    replace Wb22 : Kd.W u8 5 w19 Fb22 r4 (ps[k].2) := Wb22
    refine ed1 17 (by kernel_rfl) <| euf rfl (xapb (ys := [((ps[k]).1, ps[k].2)]) (G := Fb22) Try.underlying47 ti112 rfl rfl rfl Wa22 b21 (els_one (R := Kd.O kW _) (show Kd.O kW _ _ ((ps[k]).1, ps[k].2) _ from ⟨[], _, [_], [_], rfl, rfl, ⟨rfl, rfl⟩, _, rfl, Wb22⟩)) (by simpa using n22) (by simp; omega)) ?_
    rintro v33_20 w20 ⟨F20, A20⟩
    have H12d : Hold w11 Fd12 w20 [rR kW 112 v33_20 ((ps.take k) ++ [((ps[k]).1, ps[k].2)]), rB g32 112 ([.int .i64 ((ps[k]).1), r4])] := Hold.apd2 K22 (by simp) Wa22 A20
    clear H11d
    refine ⟨.inr (Hold.ch H12d), ?_⟩
    have H13 : Hold w [] w20 [rR kW 112 v33_20 ((ps.take k) ++ [((ps[k]).1, ps[k].2)]), rB g32 112 ([.int .i64 ((ps[k]).1), r4]), rB g1 49 ([v, u]), rB g2 49 ([.slice none 0 0, .slice none 0 0]), rR u8 5 r3 xs, rB g3 49 ([r3, o])] := Hold.call Kd12 H12d
    clear H12d H9
    have b23 : B w20 g3 49 ([r3, o]) := Hold.blk H13 5 rfl
    obtain ⟨_, R25⟩ : ∃ F, Kd.R kW w20 F v33_20 ((ps.take k) ++ [((ps[k]).1, ps[k].2)]) := Hold.row H13 0 rfl
    refine edt 18 rfl (by kernel_rfl) (fun w' hS => fa Try.underlying49 rfl ti47 rfl y3) (ed1 19 (by kernel_rfl) <| euf0 rfl (xst (vs := [v33_20]) ti47 rfl rfl (cel1 (R25).oneCell) b23 rfl (Nat.le_of_ble_eq_true rfl) (ones1 (R25).oneCell)) ?_)
    rintro w24 ⟨-, b24, c24⟩
    have H14 : Hold w [] w24 [rR kW 112 v33_20 ((ps.take k) ++ [((ps[k]).1, ps[k].2)]), rB g32 112 ([.int .i64 ((ps[k]).1), r4]), rB g1 49 ([v, u]), rB g2 49 ([.slice none 0 0, .slice none 0 0]), rR u8 5 r3 xs, rB g3 49 ([r3, v33_20])] := Hold.setB H13 5 rfl b24 c24 rfl
    clear H13
    clear b24 c24
    refine ⟨.inl (by kernel_rfl), ?_⟩
    refine edd (by kernel_rfl) ?_
    refine be ?_
    refine gen (fun ρ => ρ 1 = .pointer (some ⟨g1, 0, none⟩) ∧ ρ 2 = .pointer (some ⟨g2, 0, none⟩) ∧ ρ 3 = .pointer (some ⟨g3, 0, none⟩) ∧ ρ 4 = .int .i64 (k : Int) ∧ True) ⟨y1, y2, y3, y4, trivial⟩ ?_
    rintro ρ ⟨z1, z2, z3, z4, -⟩
    refine rg (r (mv z4) (r (ad (a := (k : Int)) (b := 1) ((k : Int) + 1) rfl rfl (by omega)) (r (sa rfl) (re ?_))))
    have H15 : Hold w [] w24 [rB g1 49 ([v, u]), rB g2 49 ([.slice none 0 0, .slice none 0 0]), rR u8 5 r3 xs, rB g3 49 ([r3, v33_20]), rR kW 112 v33_20 ((ps.take k) ++ [((ps[k]).1, ps[k].2)])] := (show Hold w [] w24 ([rB g1 49 ([v, u]), rB g2 49 ([.slice none 0 0, .slice none 0 0]), rR u8 5 r3 xs, rB g3 49 ([r3, v33_20]), rR kW 112 v33_20 ((ps.take k) ++ [((ps[k]).1, ps[k].2)])] ++ [rB g32 112 ([.int .i64 ((ps[k]).1), r4])]) from Hold.re H14 [2, 3, 4, 5, 0, 1] (by kernel_rfl) (by rfl)).drop
    clear H14
    exact ag (k + 1, v33_20) ⟨z1, z2, z3, rfl, (by rw [List.take_succ_eq_append_getElem hk']; exact H15), by omega⟩ (by first | omega | (dsimp only; omega))
  · obtain rfl : k = ps.length := by omega
    have H8 : Hold w [] w507 [rB g1 49 ([v, u]), rB g2 49 ([.slice none 0 0, .slice none 0 0]), rR u8 5 r3 xs, rB g3 49 ([r3, o]), rR kW 112 o ps] := (by rw [List.take_length] at H7; exact H7)
    clear H7
    have b11 : B w507 g3 49 ([r3, o]) := Hold.blk H8 3 rfl
    have b12 : B w507 g2 49 ([.slice none 0 0, .slice none 0 0]) := Hold.blk H8 1 rfl
    obtain ⟨_, R14⟩ : ∃ F, Kd.R kW w507 F o ps := Hold.row H8 4 rfl
    obtain ⟨_, R15⟩ : ∃ F, Kd.R u8 w507 F r3 xs := Hold.row H8 2 rfl
    refine ex rfl (sq (rg (r (lab [r3, o] Try.underlying49 rfl ti49 y3 b11 rfl rfl) (ef0 (xst (vs := [r3, o]) ti49 y2 rfl rfl b12 rfl (Nat.le_of_ble_eq_true rfl) (oc (R15).oneCell (oc (R14).oneCell on))) ?_))))
    rintro w13 ⟨-, b13, c13⟩
    have H9 : Hold w [] w13 [rB g1 49 ([v, u]), rB g2 49 ([r3, o]), rR u8 5 r3 xs, rB g3 49 ([r3, o]), rR kW 112 o ps] := Hold.setB H8 1 rfl b13 c13 rfl
    clear H8
    clear b13 c13
    refine re (rt ?_)
    have b16 : B w13 g2 49 ([r3, o]) := Hold.blk H9 1 rfl
    have H10 : Hold w [] w13 [rR u8 5 r3 xs, rR kW 112 o ps] := (show Hold w [] w13 ([rR u8 5 r3 xs, rR kW 112 o ps] ++ [rB g1 49 ([v, u]), rB g2 49 ([r3, o]), rB g3 49 ([r3, o])]) from Hold.re H9 [2, 4, 0, 1, 3] (by kernel_rfl) (by rfl)).drop
    clear H9
    exact finc  (cs := [r3, o]) Try.results137 Try.underlying49 rfl ti49 y2 b16 rfl  ⟨_, _, rfl, H10⟩
theorem impl_DiskWrite {w : World} {F G : List Nat} {F2 : List Nat} {v u z : Value} {xs ys : List Int} {ps : List Wr} {b : Int} (hx : u8.R w F v xs) (hp : kW.R w G u ps) (lx : xs.length ≤ 1000000000) (hlp : ps.length ≤ 2000000) (lxx : ∀ x, x ∈ ps → x.2.length ≤ 1000000000) (hz : u8.R w F2 z ys) (lz : ys.length ≤ 1000000000) : Ret Try.prog 83 #[.agg #[v, u], .int .i64 b, z] w (fun r w' => ∃ a c, r = .agg #[a, c] ∧ Hold w [] w' [rR u8 5 a (dwD xs ps b ys).1, rR kW 112 c (dwD xs ps b ys).2]) := by
  refine enter Try.func83 rfl Try.ntmps83 (by rfl) (by rfl) ?_
  have H0 : Hold w [] w [] := Hold.start w
  refine sq (rg (ef (xbx (t := 49) rfl rfl) ?_))
  rintro _ w1 ⟨g3, e1, rfl, -, b1, c1⟩
  have H1 : Hold w [] w1 [rB g3 49 ([v, u])] := Hold.newB H0 e1 b1 c1
  clear H0
  clear e1 b1 c1
  refine ef (xal ti49) ?_
  rintro _ w2 ⟨g6, e2, rfl, -, b2, c2⟩
  have H2 : Hold w [] w2 [rB g3 49 ([v, u]), rB g6 49 ([.slice none 0 0, .slice none 0 0])] := Hold.newB H1 e2 b2 c2
  clear H1
  clear e2 b2 c2
  have b3 : B w2 g3 49 ([v, u]) := Hold.blk H2 0 rfl
  refine re (sq (sq (rg (r (lab [v, u] Try.underlying49 rfl ti49 rfl b3 rfl rfl) (cl go59 (impl_ValidDisk (hx.t (Hold.ch H2)) (hp.t (Hold.ch H2)) lx (by omega) lxx) (ac rfl an) ?_)))))
  rintro r wv ⟨rfl, cv⟩
  have H3 : Hold w [] wv [rB g3 49 ([v, u]), rB g6 49 ([.slice none 0 0, .slice none 0 0])] := Hold.t H2 cv
  clear H2
  clear cv
  refine r (nt rfl) (r (mv rfl) ?_)
  refine spb 11 rfl (fun h1 => ?_) (fun h1 => ?_)
  · rw [dwD_no (fun e => by simp [e.1] at h1)]
    have H4 : Hold w [] wv [rB g3 49 ([v, u]), rB g6 49 ([.slice none 0 0, .slice none 0 0]), rR u8 5 (.slice none 0 0) ([])] := Hold.nilrow u8 5 H3
    clear H3
    have H5 : Hold w [] wv [rB g3 49 ([v, u]), rB g6 49 ([.slice none 0 0, .slice none 0 0]), rR u8 5 (.slice none 0 0) ([]), rR kW 112 (.slice none 0 0) ([])] := Hold.nilrow kW 112 H4
    clear H4
    refine gn rfl rfl rfl (gn rfl rfl rfl (gn rfl rfl rfl (gn rfl rfl rfl (r (pk rfl rfl) (r (mv rfl) (gn rfl rfl rfl (gn rfl rfl rfl (r (pk rfl rfl) (r (mv rfl) (gn rfl rfl rfl (gn rfl rfl rfl (gn rfl rfl rfl (gn rfl rfl rfl (r (pk rfl rfl) (r (mv rfl) (gn rfl rfl rfl (gn rfl rfl rfl (gn rfl rfl rfl (r (pk rfl rfl) (re (ct rfl (sq ?_))))))))))))))))))))))
    refine gen (fun ρ => ρ 1 = .int .i64 b ∧ ρ 2 = z ∧ ρ 3 = .pointer (some ⟨g3, 0, none⟩) ∧ ρ 6 = .pointer (some ⟨g6, 0, none⟩) ∧ True) ⟨rfl, rfl, rfl, rfl, trivial⟩ ?_
    rintro ρ ⟨z1, z2, z3, z6, -⟩
    have b5 : B wv g6 49 ([.slice none 0 0, .slice none 0 0]) := Hold.blk H5 1 rfl
    obtain ⟨_, R7⟩ : ∃ F, Kd.R u8 wv F (.slice none 0 0) ([]) := Hold.row H5 2 rfl
    refine rg (r (bd (r := [.slice none 0 0, .slice none 0 0]) ti49 pl49 pn rfl) (ef0 (xst (vs := [.slice none 0 0, .slice none 0 0]) ti49 z6 rfl rfl b5 rfl (Nat.le_of_ble_eq_true rfl) (oc (R7).oneCell (oc (R7).oneCell on))) ?_))
    rintro w6 ⟨-, b6, c6⟩
    have H6 : Hold w [] w6 [rB g3 49 ([v, u]), rB g6 49 ([.slice none 0 0, .slice none 0 0]), rR u8 5 (.slice none 0 0) ([]), rR kW 112 (.slice none 0 0) ([])] := Hold.setB H5 1 rfl b6 c6 rfl
    clear H5
    clear b6 c6
    refine re (rt ?_)
    have b8 : B w6 g6 49 ([.slice none 0 0, .slice none 0 0]) := Hold.blk H6 1 rfl
    have H7 : Hold w [] w6 [rR u8 5 (.slice none 0 0) ([]), rR kW 112 (.slice none 0 0) ([])] := (show Hold w [] w6 ([rR u8 5 (.slice none 0 0) ([]), rR kW 112 (.slice none 0 0) ([])] ++ [rB g3 49 ([v, u]), rB g6 49 ([.slice none 0 0, .slice none 0 0])]) from Hold.re H6 [2, 3, 0, 1] (by kernel_rfl) (by rfl)).drop
    clear H6
    exact finc  (cs := [.slice none 0 0, .slice none 0 0]) Try.results83 Try.underlying49 rfl ti49 z6 b8 rfl  ⟨_, _, rfl, H7⟩
  · have b5 : B wv g3 49 ([v, u]) := Hold.blk H3 0 rfl
    refine gy rfl rfl rfl (r (fa Try.underlying49 rfl ti47 rfl rfl) (gy rfl rfl rfl (r (ldb Try.underlying47 rfl rfl b5 rfl) (gy rfl rfl rfl (r (ln Try.underlying47 rfl ((hp.t (Hold.ch H3)))) (gy rfl rfl rfl (r (bi rfl rfl rfl) (r (pk rfl rfl) (r (mv rfl) ?_)))))))))
    refine sp 17 rfl (fun h2 => ?_) (fun h2 => ?_)
    · rw [dwD_no (fun e => e.2.1 (by omega))]
      have H4 : Hold w [] wv [rB g3 49 ([v, u]), rB g6 49 ([.slice none 0 0, .slice none 0 0]), rR u8 5 (.slice none 0 0) ([])] := Hold.nilrow u8 5 H3
      clear H3
      have H5 : Hold w [] wv [rB g3 49 ([v, u]), rB g6 49 ([.slice none 0 0, .slice none 0 0]), rR u8 5 (.slice none 0 0) ([]), rR kW 112 (.slice none 0 0) ([])] := Hold.nilrow kW 112 H4
      clear H4
      refine gn rfl rfl rfl (gn rfl rfl rfl (r (pk rfl rfl) (r (mv rfl) (gn rfl rfl rfl (gn rfl rfl rfl (gn rfl rfl rfl (gn rfl rfl rfl (r (pk rfl rfl) (r (mv rfl) (gn rfl rfl rfl (gn rfl rfl rfl (gn rfl rfl rfl (r (pk rfl rfl) (re (ct rfl (sq ?_))))))))))))))))
      refine gen (fun ρ => ρ 1 = .int .i64 b ∧ ρ 2 = z ∧ ρ 3 = .pointer (some ⟨g3, 0, none⟩) ∧ ρ 6 = .pointer (some ⟨g6, 0, none⟩) ∧ True) ⟨rfl, rfl, rfl, rfl, trivial⟩ ?_
      rintro ρ ⟨z1, z2, z3, z6, -⟩
      have b6 : B wv g6 49 ([.slice none 0 0, .slice none 0 0]) := Hold.blk H5 1 rfl
      obtain ⟨_, R8⟩ : ∃ F, Kd.R u8 wv F (.slice none 0 0) ([]) := Hold.row H5 2 rfl
      refine rg (r (bd (r := [.slice none 0 0, .slice none 0 0]) ti49 pl49 pn rfl) (ef0 (xst (vs := [.slice none 0 0, .slice none 0 0]) ti49 z6 rfl rfl b6 rfl (Nat.le_of_ble_eq_true rfl) (oc (R8).oneCell (oc (R8).oneCell on))) ?_))
      rintro w7 ⟨-, b7, c7⟩
      have H6 : Hold w [] w7 [rB g3 49 ([v, u]), rB g6 49 ([.slice none 0 0, .slice none 0 0]), rR u8 5 (.slice none 0 0) ([]), rR kW 112 (.slice none 0 0) ([])] := Hold.setB H5 1 rfl b7 c7 rfl
      clear H5
      clear b7 c7
      refine re (rt ?_)
      have b9 : B w7 g6 49 ([.slice none 0 0, .slice none 0 0]) := Hold.blk H6 1 rfl
      have H7 : Hold w [] w7 [rR u8 5 (.slice none 0 0) ([]), rR kW 112 (.slice none 0 0) ([])] := (show Hold w [] w7 ([rR u8 5 (.slice none 0 0) ([]), rR kW 112 (.slice none 0 0) ([])] ++ [rB g3 49 ([v, u]), rB g6 49 ([.slice none 0 0, .slice none 0 0])]) from Hold.re H6 [2, 3, 0, 1] (by kernel_rfl) (by rfl)).drop
      clear H6
      exact finc  (cs := [.slice none 0 0, .slice none 0 0]) Try.results83 Try.underlying49 rfl ti49 z6 b9 rfl  ⟨_, _, rfl, H7⟩
    · refine gy rfl rfl rfl (r (mv rfl) (gy rfl rfl rfl (r (bi rfl rfl rfl) (r (pk rfl rfl) (r (mv rfl) ?_)))))
      refine sp 21 rfl (fun h3 => ?_) (fun h3 => ?_)
      · rw [dwD_no (fun e => by have := e.2; omega)]
        have H4 : Hold w [] wv [rB g3 49 ([v, u]), rB g6 49 ([.slice none 0 0, .slice none 0 0]), rR u8 5 (.slice none 0 0) ([])] := Hold.nilrow u8 5 H3
        clear H3
        have H5 : Hold w [] wv [rB g3 49 ([v, u]), rB g6 49 ([.slice none 0 0, .slice none 0 0]), rR u8 5 (.slice none 0 0) ([]), rR kW 112 (.slice none 0 0) ([])] := Hold.nilrow kW 112 H4
        clear H4
        refine gn rfl rfl rfl (gn rfl rfl rfl (gn rfl rfl rfl (gn rfl rfl rfl (r (pk rfl rfl) (r (mv rfl) (gn rfl rfl rfl (gn rfl rfl rfl (gn rfl rfl rfl (r (pk rfl rfl) (re (ct rfl (sq ?_))))))))))))
        refine gen (fun ρ => ρ 1 = .int .i64 b ∧ ρ 2 = z ∧ ρ 3 = .pointer (some ⟨g3, 0, none⟩) ∧ ρ 6 = .pointer (some ⟨g6, 0, none⟩) ∧ True) ⟨rfl, rfl, rfl, rfl, trivial⟩ ?_
        rintro ρ ⟨z1, z2, z3, z6, -⟩
        have b6 : B wv g6 49 ([.slice none 0 0, .slice none 0 0]) := Hold.blk H5 1 rfl
        obtain ⟨_, R8⟩ : ∃ F, Kd.R u8 wv F (.slice none 0 0) ([]) := Hold.row H5 2 rfl
        refine rg (r (bd (r := [.slice none 0 0, .slice none 0 0]) ti49 pl49 pn rfl) (ef0 (xst (vs := [.slice none 0 0, .slice none 0 0]) ti49 z6 rfl rfl b6 rfl (Nat.le_of_ble_eq_true rfl) (oc (R8).oneCell (oc (R8).oneCell on))) ?_))
        rintro w7 ⟨-, b7, c7⟩
        have H6 : Hold w [] w7 [rB g3 49 ([v, u]), rB g6 49 ([.slice none 0 0, .slice none 0 0]), rR u8 5 (.slice none 0 0) ([]), rR kW 112 (.slice none 0 0) ([])] := Hold.setB H5 1 rfl b7 c7 rfl
        clear H5
        clear b7 c7
        refine re (rt ?_)
        have b9 : B w7 g6 49 ([.slice none 0 0, .slice none 0 0]) := Hold.blk H6 1 rfl
        have H7 : Hold w [] w7 [rR u8 5 (.slice none 0 0) ([]), rR kW 112 (.slice none 0 0) ([])] := (show Hold w [] w7 ([rR u8 5 (.slice none 0 0) ([]), rR kW 112 (.slice none 0 0) ([])] ++ [rB g3 49 ([v, u]), rB g6 49 ([.slice none 0 0, .slice none 0 0])]) from Hold.re H6 [2, 3, 0, 1] (by kernel_rfl) (by rfl)).drop
        clear H6
        exact finc  (cs := [.slice none 0 0, .slice none 0 0]) Try.results83 Try.underlying49 rfl ti49 z6 b9 rfl  ⟨_, _, rfl, H7⟩
      · refine gy rfl rfl rfl (r (mv rfl) (gy rfl rfl rfl (r (lab [v, u] Try.underlying49 rfl ti49 rfl b5 rfl rfl) (gy rfl rfl rfl (cl go117 (Disk_blocks (hx.t (Hold.ch H3)) lx) (ac rfl an) ?_)))))
        rintro r wb ⟨rfl, cb⟩
        have H4 : Hold w [] wb [rB g3 49 ([v, u]), rB g6 49 ([.slice none 0 0, .slice none 0 0])] := Hold.t H3 cb
        clear H3
        clear cb
        refine gy rfl rfl rfl (r (bi rfl rfl rfl) (r (pk rfl rfl) (r (mv rfl) ?_)))
        refine sp 27 rfl (fun h4 => ?_) (fun h4 => ?_)
        · rw [dwD_no (fun e => by have := e.2; omega)]
          have H5 : Hold w [] wb [rB g3 49 ([v, u]), rB g6 49 ([.slice none 0 0, .slice none 0 0]), rR u8 5 (.slice none 0 0) ([])] := Hold.nilrow u8 5 H4
          clear H4
          have H6 : Hold w [] wb [rB g3 49 ([v, u]), rB g6 49 ([.slice none 0 0, .slice none 0 0]), rR u8 5 (.slice none 0 0) ([]), rR kW 112 (.slice none 0 0) ([])] := Hold.nilrow kW 112 H5
          clear H5
          refine gn rfl rfl rfl (gn rfl rfl rfl (gn rfl rfl rfl (r (pk rfl rfl) (re (ct rfl (sq ?_))))))
          refine gen (fun ρ => ρ 1 = .int .i64 b ∧ ρ 2 = z ∧ ρ 3 = .pointer (some ⟨g3, 0, none⟩) ∧ ρ 6 = .pointer (some ⟨g6, 0, none⟩) ∧ True) ⟨rfl, rfl, rfl, rfl, trivial⟩ ?_
          rintro ρ ⟨z1, z2, z3, z6, -⟩
          have b7 : B wb g6 49 ([.slice none 0 0, .slice none 0 0]) := Hold.blk H6 1 rfl
          obtain ⟨_, R9⟩ : ∃ F, Kd.R u8 wb F (.slice none 0 0) ([]) := Hold.row H6 2 rfl
          refine rg (r (bd (r := [.slice none 0 0, .slice none 0 0]) ti49 pl49 pn rfl) (ef0 (xst (vs := [.slice none 0 0, .slice none 0 0]) ti49 z6 rfl rfl b7 rfl (Nat.le_of_ble_eq_true rfl) (oc (R9).oneCell (oc (R9).oneCell on))) ?_))
          rintro w8 ⟨-, b8, c8⟩
          have H7 : Hold w [] w8 [rB g3 49 ([v, u]), rB g6 49 ([.slice none 0 0, .slice none 0 0]), rR u8 5 (.slice none 0 0) ([]), rR kW 112 (.slice none 0 0) ([])] := Hold.setB H6 1 rfl b8 c8 rfl
          clear H6
          clear b8 c8
          refine re (rt ?_)
          have b10 : B w8 g6 49 ([.slice none 0 0, .slice none 0 0]) := Hold.blk H7 1 rfl
          have H8 : Hold w [] w8 [rR u8 5 (.slice none 0 0) ([]), rR kW 112 (.slice none 0 0) ([])] := (show Hold w [] w8 ([rR u8 5 (.slice none 0 0) ([]), rR kW 112 (.slice none 0 0) ([])] ++ [rB g3 49 ([v, u]), rB g6 49 ([.slice none 0 0, .slice none 0 0])]) from Hold.re H7 [2, 3, 0, 1] (by kernel_rfl) (by rfl)).drop
          clear H7
          exact finc  (cs := [.slice none 0 0, .slice none 0 0]) Try.results83 Try.underlying49 rfl ti49 z6 b10 rfl  ⟨_, _, rfl, H8⟩
        · refine gy rfl rfl rfl (r (mv rfl) (gy rfl rfl rfl (r (ln Try.underlying40 rfl ((hz.t (Hold.ch H4)))) (gy rfl rfl rfl (r (bi rfl rfl rfl) (r (pk rfl rfl) (re ?_)))))))
          refine cpn rfl (fun h5 => ?_) (fun h5 => ?_)
          · rw [dwD_no (fun e => h5 (by have := e.2; omega))]
            have H5 : Hold w [] wb [rB g3 49 ([v, u]), rB g6 49 ([.slice none 0 0, .slice none 0 0]), rR u8 5 (.slice none 0 0) ([])] := Hold.nilrow u8 5 H4
            clear H4
            have H6 : Hold w [] wb [rB g3 49 ([v, u]), rB g6 49 ([.slice none 0 0, .slice none 0 0]), rR u8 5 (.slice none 0 0) ([]), rR kW 112 (.slice none 0 0) ([])] := Hold.nilrow kW 112 H5
            clear H5
            refine sq ?_
            refine gen (fun ρ => ρ 1 = .int .i64 b ∧ ρ 2 = z ∧ ρ 3 = .pointer (some ⟨g3, 0, none⟩) ∧ ρ 6 = .pointer (some ⟨g6, 0, none⟩) ∧ True) ⟨rfl, rfl, rfl, rfl, trivial⟩ ?_
            rintro ρ ⟨z1, z2, z3, z6, -⟩
            have b7 : B wb g6 49 ([.slice none 0 0, .slice none 0 0]) := Hold.blk H6 1 rfl
            obtain ⟨_, R9⟩ : ∃ F, Kd.R u8 wb F (.slice none 0 0) ([]) := Hold.row H6 2 rfl
            refine rg (r (bd (r := [.slice none 0 0, .slice none 0 0]) ti49 pl49 pn rfl) (ef0 (xst (vs := [.slice none 0 0, .slice none 0 0]) ti49 z6 rfl rfl b7 rfl (Nat.le_of_ble_eq_true rfl) (oc (R9).oneCell (oc (R9).oneCell on))) ?_))
            rintro w8 ⟨-, b8, c8⟩
            have H7 : Hold w [] w8 [rB g3 49 ([v, u]), rB g6 49 ([.slice none 0 0, .slice none 0 0]), rR u8 5 (.slice none 0 0) ([]), rR kW 112 (.slice none 0 0) ([])] := Hold.setB H6 1 rfl b8 c8 rfl
            clear H6
            clear b8 c8
            refine re (rt ?_)
            have b10 : B w8 g6 49 ([.slice none 0 0, .slice none 0 0]) := Hold.blk H7 1 rfl
            have H8 : Hold w [] w8 [rR u8 5 (.slice none 0 0) ([]), rR kW 112 (.slice none 0 0) ([])] := (show Hold w [] w8 ([rR u8 5 (.slice none 0 0) ([]), rR kW 112 (.slice none 0 0) ([])] ++ [rB g3 49 ([v, u]), rB g6 49 ([.slice none 0 0, .slice none 0 0])]) from Hold.re H7 [2, 3, 0, 1] (by kernel_rfl) (by rfl)).drop
            clear H7
            exact finc  (cs := [.slice none 0 0, .slice none 0 0]) Try.results83 Try.underlying49 rfl ti49 z6 b10 rfl  ⟨_, _, rfl, H8⟩
          · have hv : vdisk xs ps = true := by simpa using h1
            rw [dwD_yes ⟨hv, by omega, by omega, by omega, by omega⟩]
            have V := VD.of hv
            have hn := V.num
            have hlx : ∀ x, x ∈ ps ++ [(b, ys)] → x.2.length ≤ 1000000000 := fun x hx => (List.mem_append.1 hx).elim (lxx x) (fun h => by rw [List.mem_singleton.1 h]; exact lz)
            refine sk (sq ?_)
            refine gen (fun ρ => ρ 1 = .int .i64 b ∧ ρ 2 = z ∧ ρ 3 = .pointer (some ⟨g3, 0, none⟩) ∧ ρ 6 = .pointer (some ⟨g6, 0, none⟩) ∧ True) ⟨rfl, rfl, rfl, rfl, trivial⟩ ?_
            rintro ρ ⟨z1, z2, z3, z6, -⟩
            have b7 : B wb g3 49 ([v, u]) := Hold.blk H4 0 rfl
            refine rg (r (lab [v, u] Try.underlying49 rfl ti49 z3 b7 rfl rfl) (cl go131 (spin (hx.t (Hold.ch H4)) (hp.t (Hold.ch H4)) lx hlp lxx) (ac rfl an) ?_))
            rintro r ws ⟨g, dv, wv, mg, rfl, Hs1⟩
            have H5 : Hold w [] ws [rB g3 49 ([v, u]), rB g6 49 ([.slice none 0 0, .slice none 0 0]), rB g 183 ([dv, wv, .map (some mg)]), rR u8 5 dv xs, rR kW 112 wv ps, rM mg (yng ps)] := Hold.news H4 Hs1
            clear H4
            clear Hs1
            have H6 : Hold w [] ws [rB g 183 ([dv, wv, .map (some mg)]), rR u8 5 dv xs, rR kW 112 wv ps, rM mg (yng ps), rB g3 49 ([v, u]), rB g6 49 ([.slice none 0 0, .slice none 0 0])] := Hold.re H5 [2, 3, 4, 5, 0, 1] (by kernel_rfl) (by rfl)
            clear H5
            obtain ⟨F9, hF9, n9, s9, K9⟩ := Hold.front (Γ := [rB g 183 ([dv, wv, .map (some mg)]), rR u8 5 dv xs, rR kW 112 wv ps, rM mg (yng ps)]) (Δ := [rB g3 49 ([v, u]), rB g6 49 ([.slice none 0 0, .slice none 0 0])]) H6
            refine r (sa rfl) (re (sq (rg (r (mv rfl) (r (mv z1) (r (mv z2) (cl go133 (platter_write (b := b) hF9 n9 (hz.t (Hold.ch H6)) (dis_of0 hz.lt s9) lz hlp) (ac rfl (ac rfl (ac rfl an))) ?_)))))))
            rintro _ ww ⟨wv', Hw⟩
            have H7 : Hold w [] ww [rB g 183 ([dv, wv', .map (some mg)]), rR u8 5 dv xs, rR kW 112 wv' (ps ++ [(b, ys)]), rM mg (yng (ps ++ [(b, ys)])), rB g3 49 ([v, u]), rB g6 49 ([.slice none 0 0, .slice none 0 0])] := Hold.call K9 Hw
            clear H6
            clear K9 hF9 n9 s9
            clear Hw
            have b11 : B ww g 183 ([dv, wv', .map (some mg)]) := Hold.blk H7 0 rfl
            obtain ⟨_, R12⟩ : ∃ F, Kd.R u8 ww F dv xs := Hold.row H7 1 rfl
            obtain ⟨_, R13⟩ : ∃ F, Kd.R kW ww F wv' (ps ++ [(b, ys)]) := Hold.row H7 2 rfl
            refine re (sq (rg (r (mv rfl) (cl go136 (platter_disk b11 R12 R13 lx (by simp; omega) hlx) (ac rfl an) ?_))))
            rintro r wd ⟨a, c, rfl, Hd⟩
            have H8 : Hold w [] wd [rB g 183 ([dv, wv', .map (some mg)]), rR u8 5 dv xs, rR kW 112 wv' (ps ++ [(b, ys)]), rM mg (yng (ps ++ [(b, ys)])), rB g3 49 ([v, u]), rB g6 49 ([.slice none 0 0, .slice none 0 0]), rR u8 5 a xs, rR kW 112 c (ps ++ [(b, ys)])] := Hold.news H7 Hd
            clear H7
            clear Hd
            have b14 : B wd g6 49 ([.slice none 0 0, .slice none 0 0]) := Hold.blk H8 5 rfl
            obtain ⟨_, R16⟩ : ∃ F, Kd.R kW wd F c (ps ++ [(b, ys)]) := Hold.row H8 7 rfl
            obtain ⟨_, R17⟩ : ∃ F, Kd.R u8 wd F a xs := Hold.row H8 6 rfl
            refine ef0 (xst (vs := [a, c]) ti49 z6 rfl rfl b14 rfl (Nat.le_of_ble_eq_true rfl) (oc (R17).oneCell (oc (R16).oneCell on))) ?_
            rintro w15 ⟨-, b15, c15⟩
            have H9 : Hold w [] w15 [rB g 183 ([dv, wv', .map (some mg)]), rR u8 5 dv xs, rR kW 112 wv' (ps ++ [(b, ys)]), rM mg (yng (ps ++ [(b, ys)])), rB g3 49 ([v, u]), rB g6 49 ([a, c]), rR u8 5 a xs, rR kW 112 c (ps ++ [(b, ys)])] := Hold.setB H8 5 rfl b15 c15 rfl
            clear H8
            clear b15 c15
            refine re (rt ?_)
            have b18 : B w15 g6 49 ([a, c]) := Hold.blk H9 5 rfl
            have H10 : Hold w [] w15 [rR u8 5 a xs, rR kW 112 c (ps ++ [(b, ys)])] := (show Hold w [] w15 ([rR u8 5 a xs, rR kW 112 c (ps ++ [(b, ys)])] ++ [rB g 183 ([dv, wv', .map (some mg)]), rR u8 5 dv xs, rR kW 112 wv' (ps ++ [(b, ys)]), rM mg (yng (ps ++ [(b, ys)])), rB g3 49 ([v, u]), rB g6 49 ([a, c])]) from Hold.re H9 [6, 7, 0, 1, 2, 3, 4, 5] (by kernel_rfl) (by rfl)).drop
            clear H9
            exact finc  (cs := [a, c]) Try.results83 Try.underlying49 rfl ti49 z6 b18 rfl  ⟨_, _, rfl, H10⟩
theorem spec_DiskWrite {w : World} {F G : List Nat} {F2 : List Nat} {v u z : Value} {xs ys : List Int} {ps : List Wr} {b : Int} (hx : u8.R w F v xs) (hp : kW.R w G u ps) (lx : xs.length ≤ 1000000000) (hlp : ps.length ≤ 2000000) (lxx : ∀ x, x ∈ ps → x.2.length ≤ 1000000000) (hz : u8.R w F2 z ys) (lz : ys.length ≤ 1000000000) : Ret Try.prog 82 #[.agg #[v, u], .int .i64 b, z] w (fun r w' => ∃ a c, r = .agg #[a, c] ∧ Hold w [] w' [rR u8 5 a (dwD xs ps b ys).1, rR kW 112 c (dwD xs ps b ys).2]) := by
  refine enter Try.func82 rfl Try.ntmps82 (by rfl) (by rfl) ?_
  have H0 : Hold w [] w [] := Hold.start w
  refine sq (rg (ef (xbx (t := 49) rfl rfl) ?_))
  rintro _ w1 ⟨g3, e1, rfl, -, b1, c1⟩
  have H1 : Hold w [] w1 [rB g3 49 ([v, u])] := Hold.newB H0 e1 b1 c1
  clear H0
  clear e1 b1 c1
  refine ef (xal ti49) ?_
  rintro _ w2 ⟨g6, e2, rfl, -, b2, c2⟩
  have H2 : Hold w [] w2 [rB g3 49 ([v, u]), rB g6 49 ([.slice none 0 0, .slice none 0 0])] := Hold.newB H1 e2 b2 c2
  clear H1
  clear e2 b2 c2
  have b3 : B w2 g3 49 ([v, u]) := Hold.blk H2 0 rfl
  refine re (sq (sq (rg (r (lab [v, u] Try.underlying49 rfl ti49 rfl b3 rfl rfl) (cl go57 (spec_ValidDisk (hx.t (Hold.ch H2)) (hp.t (Hold.ch H2)) lx (by omega) lxx) (ac rfl an) ?_)))))
  rintro r wv ⟨rfl, cv⟩
  have H3 : Hold w [] wv [rB g3 49 ([v, u]), rB g6 49 ([.slice none 0 0, .slice none 0 0])] := Hold.t H2 cv
  clear H2
  clear cv
  refine r (nt rfl) (r (mv rfl) ?_)
  refine spb 11 rfl (fun h1 => ?_) (fun h1 => ?_)
  · rw [dwD_no (fun e => by simp [e.1] at h1)]
    have H4 : Hold w [] wv [rB g3 49 ([v, u]), rB g6 49 ([.slice none 0 0, .slice none 0 0]), rR u8 5 (.slice none 0 0) ([])] := Hold.nilrow u8 5 H3
    clear H3
    have H5 : Hold w [] wv [rB g3 49 ([v, u]), rB g6 49 ([.slice none 0 0, .slice none 0 0]), rR u8 5 (.slice none 0 0) ([]), rR kW 112 (.slice none 0 0) ([])] := Hold.nilrow kW 112 H4
    clear H4
    refine gn rfl rfl rfl (gn rfl rfl rfl (gn rfl rfl rfl (gn rfl rfl rfl (r (pk rfl rfl) (r (mv rfl) (gn rfl rfl rfl (gn rfl rfl rfl (r (pk rfl rfl) (r (mv rfl) (gn rfl rfl rfl (gn rfl rfl rfl (gn rfl rfl rfl (gn rfl rfl rfl (r (pk rfl rfl) (r (mv rfl) (gn rfl rfl rfl (gn rfl rfl rfl (gn rfl rfl rfl (r (pk rfl rfl) (re (ct rfl (sq ?_))))))))))))))))))))))
    refine gen (fun ρ => ρ 1 = .int .i64 b ∧ ρ 2 = z ∧ ρ 3 = .pointer (some ⟨g3, 0, none⟩) ∧ ρ 6 = .pointer (some ⟨g6, 0, none⟩) ∧ True) ⟨rfl, rfl, rfl, rfl, trivial⟩ ?_
    rintro ρ ⟨z1, z2, z3, z6, -⟩
    have b5 : B wv g6 49 ([.slice none 0 0, .slice none 0 0]) := Hold.blk H5 1 rfl
    obtain ⟨_, R7⟩ : ∃ F, Kd.R u8 wv F (.slice none 0 0) ([]) := Hold.row H5 2 rfl
    refine rg (r (bd (r := [.slice none 0 0, .slice none 0 0]) ti49 pl49 pn rfl) (ef0 (xst (vs := [.slice none 0 0, .slice none 0 0]) ti49 z6 rfl rfl b5 rfl (Nat.le_of_ble_eq_true rfl) (oc (R7).oneCell (oc (R7).oneCell on))) ?_))
    rintro w6 ⟨-, b6, c6⟩
    have H6 : Hold w [] w6 [rB g3 49 ([v, u]), rB g6 49 ([.slice none 0 0, .slice none 0 0]), rR u8 5 (.slice none 0 0) ([]), rR kW 112 (.slice none 0 0) ([])] := Hold.setB H5 1 rfl b6 c6 rfl
    clear H5
    clear b6 c6
    refine re (rt ?_)
    have b8 : B w6 g6 49 ([.slice none 0 0, .slice none 0 0]) := Hold.blk H6 1 rfl
    have H7 : Hold w [] w6 [rR u8 5 (.slice none 0 0) ([]), rR kW 112 (.slice none 0 0) ([])] := (show Hold w [] w6 ([rR u8 5 (.slice none 0 0) ([]), rR kW 112 (.slice none 0 0) ([])] ++ [rB g3 49 ([v, u]), rB g6 49 ([.slice none 0 0, .slice none 0 0])]) from Hold.re H6 [2, 3, 0, 1] (by kernel_rfl) (by rfl)).drop
    clear H6
    exact finc  (cs := [.slice none 0 0, .slice none 0 0]) Try.results82 Try.underlying49 rfl ti49 z6 b8 rfl  ⟨_, _, rfl, H7⟩
  · have b5 : B wv g3 49 ([v, u]) := Hold.blk H3 0 rfl
    refine gy rfl rfl rfl (r (fa Try.underlying49 rfl ti47 rfl rfl) (gy rfl rfl rfl (r (ldb Try.underlying47 rfl rfl b5 rfl) (gy rfl rfl rfl (r (ln Try.underlying47 rfl ((hp.t (Hold.ch H3)))) (gy rfl rfl rfl (r (bi rfl rfl rfl) (r (pk rfl rfl) (r (mv rfl) ?_)))))))))
    refine sp 17 rfl (fun h2 => ?_) (fun h2 => ?_)
    · rw [dwD_no (fun e => e.2.1 (by omega))]
      have H4 : Hold w [] wv [rB g3 49 ([v, u]), rB g6 49 ([.slice none 0 0, .slice none 0 0]), rR u8 5 (.slice none 0 0) ([])] := Hold.nilrow u8 5 H3
      clear H3
      have H5 : Hold w [] wv [rB g3 49 ([v, u]), rB g6 49 ([.slice none 0 0, .slice none 0 0]), rR u8 5 (.slice none 0 0) ([]), rR kW 112 (.slice none 0 0) ([])] := Hold.nilrow kW 112 H4
      clear H4
      refine gn rfl rfl rfl (gn rfl rfl rfl (r (pk rfl rfl) (r (mv rfl) (gn rfl rfl rfl (gn rfl rfl rfl (gn rfl rfl rfl (gn rfl rfl rfl (r (pk rfl rfl) (r (mv rfl) (gn rfl rfl rfl (gn rfl rfl rfl (gn rfl rfl rfl (r (pk rfl rfl) (re (ct rfl (sq ?_))))))))))))))))
      refine gen (fun ρ => ρ 1 = .int .i64 b ∧ ρ 2 = z ∧ ρ 3 = .pointer (some ⟨g3, 0, none⟩) ∧ ρ 6 = .pointer (some ⟨g6, 0, none⟩) ∧ True) ⟨rfl, rfl, rfl, rfl, trivial⟩ ?_
      rintro ρ ⟨z1, z2, z3, z6, -⟩
      have b6 : B wv g6 49 ([.slice none 0 0, .slice none 0 0]) := Hold.blk H5 1 rfl
      obtain ⟨_, R8⟩ : ∃ F, Kd.R u8 wv F (.slice none 0 0) ([]) := Hold.row H5 2 rfl
      refine rg (r (bd (r := [.slice none 0 0, .slice none 0 0]) ti49 pl49 pn rfl) (ef0 (xst (vs := [.slice none 0 0, .slice none 0 0]) ti49 z6 rfl rfl b6 rfl (Nat.le_of_ble_eq_true rfl) (oc (R8).oneCell (oc (R8).oneCell on))) ?_))
      rintro w7 ⟨-, b7, c7⟩
      have H6 : Hold w [] w7 [rB g3 49 ([v, u]), rB g6 49 ([.slice none 0 0, .slice none 0 0]), rR u8 5 (.slice none 0 0) ([]), rR kW 112 (.slice none 0 0) ([])] := Hold.setB H5 1 rfl b7 c7 rfl
      clear H5
      clear b7 c7
      refine re (rt ?_)
      have b9 : B w7 g6 49 ([.slice none 0 0, .slice none 0 0]) := Hold.blk H6 1 rfl
      have H7 : Hold w [] w7 [rR u8 5 (.slice none 0 0) ([]), rR kW 112 (.slice none 0 0) ([])] := (show Hold w [] w7 ([rR u8 5 (.slice none 0 0) ([]), rR kW 112 (.slice none 0 0) ([])] ++ [rB g3 49 ([v, u]), rB g6 49 ([.slice none 0 0, .slice none 0 0])]) from Hold.re H6 [2, 3, 0, 1] (by kernel_rfl) (by rfl)).drop
      clear H6
      exact finc  (cs := [.slice none 0 0, .slice none 0 0]) Try.results82 Try.underlying49 rfl ti49 z6 b9 rfl  ⟨_, _, rfl, H7⟩
    · refine gy rfl rfl rfl (r (mv rfl) (gy rfl rfl rfl (r (bi rfl rfl rfl) (r (pk rfl rfl) (r (mv rfl) ?_)))))
      refine sp 21 rfl (fun h3 => ?_) (fun h3 => ?_)
      · rw [dwD_no (fun e => by have := e.2; omega)]
        have H4 : Hold w [] wv [rB g3 49 ([v, u]), rB g6 49 ([.slice none 0 0, .slice none 0 0]), rR u8 5 (.slice none 0 0) ([])] := Hold.nilrow u8 5 H3
        clear H3
        have H5 : Hold w [] wv [rB g3 49 ([v, u]), rB g6 49 ([.slice none 0 0, .slice none 0 0]), rR u8 5 (.slice none 0 0) ([]), rR kW 112 (.slice none 0 0) ([])] := Hold.nilrow kW 112 H4
        clear H4
        refine gn rfl rfl rfl (gn rfl rfl rfl (gn rfl rfl rfl (gn rfl rfl rfl (r (pk rfl rfl) (r (mv rfl) (gn rfl rfl rfl (gn rfl rfl rfl (gn rfl rfl rfl (r (pk rfl rfl) (re (ct rfl (sq ?_))))))))))))
        refine gen (fun ρ => ρ 1 = .int .i64 b ∧ ρ 2 = z ∧ ρ 3 = .pointer (some ⟨g3, 0, none⟩) ∧ ρ 6 = .pointer (some ⟨g6, 0, none⟩) ∧ True) ⟨rfl, rfl, rfl, rfl, trivial⟩ ?_
        rintro ρ ⟨z1, z2, z3, z6, -⟩
        have b6 : B wv g6 49 ([.slice none 0 0, .slice none 0 0]) := Hold.blk H5 1 rfl
        obtain ⟨_, R8⟩ : ∃ F, Kd.R u8 wv F (.slice none 0 0) ([]) := Hold.row H5 2 rfl
        refine rg (r (bd (r := [.slice none 0 0, .slice none 0 0]) ti49 pl49 pn rfl) (ef0 (xst (vs := [.slice none 0 0, .slice none 0 0]) ti49 z6 rfl rfl b6 rfl (Nat.le_of_ble_eq_true rfl) (oc (R8).oneCell (oc (R8).oneCell on))) ?_))
        rintro w7 ⟨-, b7, c7⟩
        have H6 : Hold w [] w7 [rB g3 49 ([v, u]), rB g6 49 ([.slice none 0 0, .slice none 0 0]), rR u8 5 (.slice none 0 0) ([]), rR kW 112 (.slice none 0 0) ([])] := Hold.setB H5 1 rfl b7 c7 rfl
        clear H5
        clear b7 c7
        refine re (rt ?_)
        have b9 : B w7 g6 49 ([.slice none 0 0, .slice none 0 0]) := Hold.blk H6 1 rfl
        have H7 : Hold w [] w7 [rR u8 5 (.slice none 0 0) ([]), rR kW 112 (.slice none 0 0) ([])] := (show Hold w [] w7 ([rR u8 5 (.slice none 0 0) ([]), rR kW 112 (.slice none 0 0) ([])] ++ [rB g3 49 ([v, u]), rB g6 49 ([.slice none 0 0, .slice none 0 0])]) from Hold.re H6 [2, 3, 0, 1] (by kernel_rfl) (by rfl)).drop
        clear H6
        exact finc  (cs := [.slice none 0 0, .slice none 0 0]) Try.results82 Try.underlying49 rfl ti49 z6 b9 rfl  ⟨_, _, rfl, H7⟩
      · refine gy rfl rfl rfl (r (mv rfl) (gy rfl rfl rfl (r (lab [v, u] Try.underlying49 rfl ti49 rfl b5 rfl rfl) (gy rfl rfl rfl (cl go115 (l1Blocks (hx.t (Hold.ch H3)) lx) (ac rfl an) ?_)))))
        rintro r wb ⟨rfl, cb⟩
        have H4 : Hold w [] wb [rB g3 49 ([v, u]), rB g6 49 ([.slice none 0 0, .slice none 0 0])] := Hold.t H3 cb
        clear H3
        clear cb
        refine gy rfl rfl rfl (r (bi rfl rfl rfl) (r (pk rfl rfl) (r (mv rfl) ?_)))
        refine sp 27 rfl (fun h4 => ?_) (fun h4 => ?_)
        · rw [dwD_no (fun e => by have := e.2; omega)]
          have H5 : Hold w [] wb [rB g3 49 ([v, u]), rB g6 49 ([.slice none 0 0, .slice none 0 0]), rR u8 5 (.slice none 0 0) ([])] := Hold.nilrow u8 5 H4
          clear H4
          have H6 : Hold w [] wb [rB g3 49 ([v, u]), rB g6 49 ([.slice none 0 0, .slice none 0 0]), rR u8 5 (.slice none 0 0) ([]), rR kW 112 (.slice none 0 0) ([])] := Hold.nilrow kW 112 H5
          clear H5
          refine gn rfl rfl rfl (gn rfl rfl rfl (gn rfl rfl rfl (r (pk rfl rfl) (re (ct rfl (sq ?_))))))
          refine gen (fun ρ => ρ 1 = .int .i64 b ∧ ρ 2 = z ∧ ρ 3 = .pointer (some ⟨g3, 0, none⟩) ∧ ρ 6 = .pointer (some ⟨g6, 0, none⟩) ∧ True) ⟨rfl, rfl, rfl, rfl, trivial⟩ ?_
          rintro ρ ⟨z1, z2, z3, z6, -⟩
          have b7 : B wb g6 49 ([.slice none 0 0, .slice none 0 0]) := Hold.blk H6 1 rfl
          obtain ⟨_, R9⟩ : ∃ F, Kd.R u8 wb F (.slice none 0 0) ([]) := Hold.row H6 2 rfl
          refine rg (r (bd (r := [.slice none 0 0, .slice none 0 0]) ti49 pl49 pn rfl) (ef0 (xst (vs := [.slice none 0 0, .slice none 0 0]) ti49 z6 rfl rfl b7 rfl (Nat.le_of_ble_eq_true rfl) (oc (R9).oneCell (oc (R9).oneCell on))) ?_))
          rintro w8 ⟨-, b8, c8⟩
          have H7 : Hold w [] w8 [rB g3 49 ([v, u]), rB g6 49 ([.slice none 0 0, .slice none 0 0]), rR u8 5 (.slice none 0 0) ([]), rR kW 112 (.slice none 0 0) ([])] := Hold.setB H6 1 rfl b8 c8 rfl
          clear H6
          clear b8 c8
          refine re (rt ?_)
          have b10 : B w8 g6 49 ([.slice none 0 0, .slice none 0 0]) := Hold.blk H7 1 rfl
          have H8 : Hold w [] w8 [rR u8 5 (.slice none 0 0) ([]), rR kW 112 (.slice none 0 0) ([])] := (show Hold w [] w8 ([rR u8 5 (.slice none 0 0) ([]), rR kW 112 (.slice none 0 0) ([])] ++ [rB g3 49 ([v, u]), rB g6 49 ([.slice none 0 0, .slice none 0 0])]) from Hold.re H7 [2, 3, 0, 1] (by kernel_rfl) (by rfl)).drop
          clear H7
          exact finc  (cs := [.slice none 0 0, .slice none 0 0]) Try.results82 Try.underlying49 rfl ti49 z6 b10 rfl  ⟨_, _, rfl, H8⟩
        · refine gy rfl rfl rfl (r (mv rfl) (gy rfl rfl rfl (r (ln Try.underlying40 rfl ((hz.t (Hold.ch H4)))) (gy rfl rfl rfl (r (bi rfl rfl rfl) (r (pk rfl rfl) (re ?_)))))))
          refine cpn rfl (fun h5 => ?_) (fun h5 => ?_)
          · rw [dwD_no (fun e => h5 (by have := e.2; omega))]
            have H5 : Hold w [] wb [rB g3 49 ([v, u]), rB g6 49 ([.slice none 0 0, .slice none 0 0]), rR u8 5 (.slice none 0 0) ([])] := Hold.nilrow u8 5 H4
            clear H4
            have H6 : Hold w [] wb [rB g3 49 ([v, u]), rB g6 49 ([.slice none 0 0, .slice none 0 0]), rR u8 5 (.slice none 0 0) ([]), rR kW 112 (.slice none 0 0) ([])] := Hold.nilrow kW 112 H5
            clear H5
            refine sq ?_
            refine gen (fun ρ => ρ 1 = .int .i64 b ∧ ρ 2 = z ∧ ρ 3 = .pointer (some ⟨g3, 0, none⟩) ∧ ρ 6 = .pointer (some ⟨g6, 0, none⟩) ∧ True) ⟨rfl, rfl, rfl, rfl, trivial⟩ ?_
            rintro ρ ⟨z1, z2, z3, z6, -⟩
            have b7 : B wb g6 49 ([.slice none 0 0, .slice none 0 0]) := Hold.blk H6 1 rfl
            obtain ⟨_, R9⟩ : ∃ F, Kd.R u8 wb F (.slice none 0 0) ([]) := Hold.row H6 2 rfl
            refine rg (r (bd (r := [.slice none 0 0, .slice none 0 0]) ti49 pl49 pn rfl) (ef0 (xst (vs := [.slice none 0 0, .slice none 0 0]) ti49 z6 rfl rfl b7 rfl (Nat.le_of_ble_eq_true rfl) (oc (R9).oneCell (oc (R9).oneCell on))) ?_))
            rintro w8 ⟨-, b8, c8⟩
            have H7 : Hold w [] w8 [rB g3 49 ([v, u]), rB g6 49 ([.slice none 0 0, .slice none 0 0]), rR u8 5 (.slice none 0 0) ([]), rR kW 112 (.slice none 0 0) ([])] := Hold.setB H6 1 rfl b8 c8 rfl
            clear H6
            clear b8 c8
            refine re (rt ?_)
            have b10 : B w8 g6 49 ([.slice none 0 0, .slice none 0 0]) := Hold.blk H7 1 rfl
            have H8 : Hold w [] w8 [rR u8 5 (.slice none 0 0) ([]), rR kW 112 (.slice none 0 0) ([])] := (show Hold w [] w8 ([rR u8 5 (.slice none 0 0) ([]), rR kW 112 (.slice none 0 0) ([])] ++ [rB g3 49 ([v, u]), rB g6 49 ([.slice none 0 0, .slice none 0 0])]) from Hold.re H7 [2, 3, 0, 1] (by kernel_rfl) (by rfl)).drop
            clear H7
            exact finc  (cs := [.slice none 0 0, .slice none 0 0]) Try.results82 Try.underlying49 rfl ti49 z6 b10 rfl  ⟨_, _, rfl, H8⟩
          · have hv : vdisk xs ps = true := by simpa using h1
            rw [dwD_yes ⟨hv, by omega, by omega, by omega, by omega⟩]
            have V := VD.of hv
            have hn := V.num
            have hlx : ∀ x, x ∈ ps ++ [(b, ys)] → x.2.length ≤ 1000000000 := fun x hx => (List.mem_append.1 hx).elim (lxx x) (fun h => by rw [List.mem_singleton.1 h]; exact lz)
            refine sk (sq ?_)
            refine gen (fun ρ => ρ 1 = .int .i64 b ∧ ρ 2 = z ∧ ρ 3 = .pointer (some ⟨g3, 0, none⟩) ∧ ρ 6 = .pointer (some ⟨g6, 0, none⟩) ∧ True) ⟨rfl, rfl, rfl, rfl, trivial⟩ ?_
            rintro ρ ⟨z1, z2, z3, z6, -⟩
            have b7 : B wb g3 49 ([v, u]) := Hold.blk H4 0 rfl
            refine rg (r (lab [v, u] Try.underlying49 rfl ti49 z3 b7 rfl rfl) (cl go137 (l1CopyDisk (hx.t (Hold.ch H4)) (hp.t (Hold.ch H4)) lx hlp lxx) (ac rfl an) ?_))
            rintro r wd ⟨a, c, rfl, Hd⟩
            have H5 : Hold w [] wd [rB g3 49 ([v, u]), rB g6 49 ([.slice none 0 0, .slice none 0 0]), rR u8 5 a xs, rR kW 112 c ps] := Hold.news H4 Hd
            clear H4
            clear Hd
            refine ef (xal ti49) ?_
            rintro _ w9 ⟨g7, e9, rfl, -, b9, c9⟩
            have H6 : Hold w [] w9 [rB g3 49 ([v, u]), rB g6 49 ([.slice none 0 0, .slice none 0 0]), rR u8 5 a xs, rR kW 112 c ps, rB g7 49 ([.slice none 0 0, .slice none 0 0])] := Hold.newB H5 e9 b9 c9
            clear H5
            clear e9 b9 c9
            have b10 : B w9 g7 49 ([.slice none 0 0, .slice none 0 0]) := Hold.blk H6 4 rfl
            obtain ⟨_, R12⟩ : ∃ F, Kd.R kW w9 F c ps := Hold.row H6 3 rfl
            obtain ⟨_, R13⟩ : ∃ F, Kd.R u8 w9 F a xs := Hold.row H6 2 rfl
            refine ef0 (xst (vs := [a, c]) ti49 rfl rfl rfl b10 rfl (Nat.le_of_ble_eq_true rfl) (oc (R13).oneCell (oc (R12).oneCell on))) ?_
            rintro w11 ⟨-, b11, c11⟩
            have H7 : Hold w [] w11 [rB g3 49 ([v, u]), rB g6 49 ([.slice none 0 0, .slice none 0 0]), rR u8 5 a xs, rR kW 112 c ps, rB g7 49 ([a, c])] := Hold.setB H6 4 rfl b11 c11 rfl
            clear H6
            clear b11 c11
            refine re (sq ?_)
            refine rde mixed ?_
            intro w14 c14
            have H8 : Hold w [] w14 [rB g3 49 ([v, u]), rB g6 49 ([.slice none 0 0, .slice none 0 0]), rR u8 5 a xs, rR kW 112 c ps, rB g7 49 ([a, c])] := Hold.t H7 c14
            clear H7
            clear c14
            have H9 : Hold w [] w14 [rR kW 112 c ps, rB g3 49 ([v, u]), rB g6 49 ([.slice none 0 0, .slice none 0 0]), rR u8 5 a xs, rB g7 49 ([a, c])] := Hold.re H8 [3, 0, 1, 2, 4] (by kernel_rfl) (by rfl)
            clear H8
            obtain ⟨Fd15, hFd15, nd15, Kd15, Xd15, sd15⟩ := Hold.frontx (Γ := [rR kW 112 c ps]) (Δ := [rB g3 49 ([v, u]), rB g6 49 ([.slice none 0 0, .slice none 0 0]), rR u8 5 a xs, rB g7 49 ([a, c])]) H9
            have H15d0 : Hold w14 Fd15 w14 [rR kW 112 c ps] := Hold.begin hFd15 nd15
            refine ⟨fun w' => Ch Fd15 w14 w', Ch.refl _ _, ?_⟩
            obtain ⟨_, ⟨rfl, b16⟩, x16⟩ := Xd15 3 (rB g7 49 ([a, c])) rfl
            refine edt 0 rfl (by kernel_rfl) (fun w' hS => fa Try.underlying49 rfl ti47 rfl rfl) (edt 1 rfl (by kernel_rfl) (fun w' hS => ldb Try.underlying47 rfl rfl (hS.b b16 (x16 _ (by simp))) rfl) (edt 2 rfl (by kernel_rfl) (fun w' hS => mv z1) (edt 3 rfl (by kernel_rfl) (fun w' hS => mv z2) (ed1 4 (by kernel_rfl) <| euc rfl go130 (ac rfl an) (l1Copy_H ((hz.t (Hold.ch H9)).tt (Hold.ch H15d0) (dis_of0 hz.lt sd15)) lz) ?_))))
            rintro r4 wc2 Hc2
            have H10d : Hold w14 Fd15 wc2 [rR kW 112 c ps, rR u8 5 r4 ys] := Hold.news H15d0 Hc2
            clear H15d0
            clear Hc2
            refine ⟨.inr (Hold.ch H10d), ?_⟩
            obtain ⟨_, R18⟩ : ∃ F, Kd.R u8 wc2 F r4 ys := Hold.row H10d 1 rfl
            refine ed1 5 (by kernel_rfl) <| eur rfl (bd (r := [.int .i64 b, r4]) ti112 pl112 (pc rfl (cel1 rfl) (pc rfl (cel1 (R18).oneCell) pn)) rfl) (.inr (Hold.ch H10d)) (ed1 6 (by kernel_rfl) <| euf rfl (xbs1 (cs := [.int .i64 b, r4]) Try.underlying47 ti112 rfl rfl rfl rfl rfl) ?_)
            rintro _ w19 ⟨g41, e19, rfl, -, b19, c19⟩
            have H11d : Hold w14 Fd15 w19 [rR kW 112 c ps, rR u8 5 r4 ys, rB g41 112 ([.int .i64 b, r4])] := Hold.newB H10d e19 b19 c19
            clear H10d
            clear e19 b19 c19
            refine ⟨.inr (Hold.ch H11d), ?_⟩
            have b21 : B w19 g41 112 ([.int .i64 b, r4]) := Hold.blk H11d 2 rfl
            obtain ⟨F22, hF22, n22, s22, K22⟩ := Hold.front (Γ := [rR kW 112 c ps, rR u8 5 r4 ys]) (Δ := [rB g41 112 ([.int .i64 b, r4])]) H11d
            obtain ⟨Fa22, _, rfl, Wa22, Fb22, _, rfl, Wb22, rfl⟩ := hF22
            replace Wa22 : Kd.W kW 112 w19 Fa22 c ps := Wa22
            replace Wb22 : Kd.W u8 5 w19 Fb22 r4 ys := Wb22
            refine ed1 7 (by kernel_rfl) <| euf rfl (xapb (ys := [(b, ys)]) (G := Fb22) Try.underlying47 ti112 rfl rfl rfl Wa22 b21 (els_one (R := Kd.O kW _) (show Kd.O kW _ _ (b, ys) _ from ⟨[], _, [_], [_], rfl, rfl, ⟨rfl, rfl⟩, _, rfl, Wb22⟩)) (by simpa using n22) (by simp; omega)) ?_
            rintro v42_20 w20 ⟨F20, A20⟩
            have H12d : Hold w14 Fd15 w20 [rR kW 112 v42_20 (ps ++ [(b, ys)]), rB g41 112 ([.int .i64 b, r4])] := Hold.apd2 K22 (by simp) Wa22 A20
            clear H11d
            refine ⟨.inr (Hold.ch H12d), ?_⟩
            have H13 : Hold w [] w20 [rR kW 112 v42_20 (ps ++ [(b, ys)]), rB g41 112 ([.int .i64 b, r4]), rB g3 49 ([v, u]), rB g6 49 ([.slice none 0 0, .slice none 0 0]), rR u8 5 a xs, rB g7 49 ([a, c])] := Hold.call Kd15 H12d
            clear H12d H9
            have b23 : B w20 g7 49 ([a, c]) := Hold.blk H13 5 rfl
            obtain ⟨_, R25⟩ : ∃ F, Kd.R kW w20 F v42_20 (ps ++ [(b, ys)]) := Hold.row H13 0 rfl
            refine edt 8 rfl (by kernel_rfl) (fun w' hS => fa Try.underlying49 rfl ti47 rfl rfl) (ed1 9 (by kernel_rfl) <| euf0 rfl (xst (vs := [v42_20]) ti47 rfl rfl (cel1 (R25).oneCell) b23 rfl (Nat.le_of_ble_eq_true rfl) (ones1 (R25).oneCell)) ?_)
            rintro w24 ⟨-, b24, c24⟩
            have H14 : Hold w [] w24 [rR kW 112 v42_20 (ps ++ [(b, ys)]), rB g41 112 ([.int .i64 b, r4]), rB g3 49 ([v, u]), rB g6 49 ([.slice none 0 0, .slice none 0 0]), rR u8 5 a xs, rB g7 49 ([a, v42_20])] := Hold.setB H13 5 rfl b24 c24 rfl
            clear H13
            clear b24 c24
            refine ⟨.inl (by kernel_rfl), ?_⟩
            refine edd (by kernel_rfl) ?_
            refine sq ?_
            refine gen (fun ρ => ρ 6 = .pointer (some ⟨g6, 0, none⟩) ∧ ρ 7 = .pointer (some ⟨g7, 0, none⟩) ∧ True) ⟨z6, rfl, trivial⟩ ?_
            rintro ρ ⟨z6, z7, -⟩
            have b26 : B w24 g7 49 ([a, v42_20]) := Hold.blk H14 5 rfl
            have b27 : B w24 g6 49 ([.slice none 0 0, .slice none 0 0]) := Hold.blk H14 3 rfl
            obtain ⟨_, R29⟩ : ∃ F, Kd.R kW w24 F v42_20 (ps ++ [(b, ys)]) := Hold.row H14 0 rfl
            obtain ⟨_, R30⟩ : ∃ F, Kd.R u8 w24 F a xs := Hold.row H14 4 rfl
            refine rg (r (lab [a, v42_20] Try.underlying49 rfl ti49 z7 b26 rfl rfl) (ef0 (xst (vs := [a, v42_20]) ti49 z6 rfl rfl b27 rfl (Nat.le_of_ble_eq_true rfl) (oc (R30).oneCell (oc (R29).oneCell on))) ?_))
            rintro w28 ⟨-, b28, c28⟩
            have H15 : Hold w [] w28 [rR kW 112 v42_20 (ps ++ [(b, ys)]), rB g41 112 ([.int .i64 b, r4]), rB g3 49 ([v, u]), rB g6 49 ([a, v42_20]), rR u8 5 a xs, rB g7 49 ([a, v42_20])] := Hold.setB H14 3 rfl b28 c28 rfl
            clear H14
            clear b28 c28
            refine re (rt ?_)
            have b31 : B w28 g6 49 ([a, v42_20]) := Hold.blk H15 3 rfl
            have H16 : Hold w [] w28 [rR u8 5 a xs, rR kW 112 v42_20 (ps ++ [(b, ys)])] := (show Hold w [] w28 ([rR u8 5 a xs, rR kW 112 v42_20 (ps ++ [(b, ys)])] ++ [rB g41 112 ([.int .i64 b, r4]), rB g3 49 ([v, u]), rB g6 49 ([a, v42_20]), rB g7 49 ([a, v42_20])]) from Hold.re H15 [4, 0, 1, 2, 3, 5] (by kernel_rfl) (by rfl)).drop
            clear H15
            exact finc  (cs := [a, v42_20]) Try.results82 Try.underlying49 rfl ti49 z6 b31 rfl  ⟨_, _, rfl, H16⟩
attribute [irreducible] dwD
end Go.Proofs.Ytgpcanjmgdmdhaa
