/-
  THE LAW'S WALK: DecodeHeader. No condition.
-/
import Derived.Test.Ytgpcanjmgdmdhaa23
import Derived.Test.Ytgpcanjmgdmdhaa25
namespace Go.Proofs.Ytgpcanjmgdmdhaa
open Go Go.Eng
set_option maxRecDepth 100000
set_option maxHeartbeats 4000000
set_option linter.unusedVariables false
theorem eqHeader {w : World} {x1 x2 x3 y1 y2 y3 : Int} : Ret Try.prog 122 #[.agg #[.int .i64 x1, .int .i64 x2, .int .i64 x3], .agg #[.int .i64 y1, .int .i64 y2, .int .i64 y3]] w (fun r w' => r = .bool (decide ((x1, x2, x3) = (y1, y2, y3))) ∧ Ch [] w w') := by
  refine enter Try.func122 rfl Try.ntmps122 (by rfl) (by rfl) ?_
  have H0 : Hold w [] w [] := Hold.start w
  refine sq (rg (ef (xbx (t := 42) rfl rfl) ?_))
  rintro _ w1 ⟨g2, e1, rfl, -, b1, c1⟩
  have H1 : Hold w [] w1 [rB g2 42 ([.int .i64 x1, .int .i64 x2, .int .i64 x3])] := Hold.newB H0 e1 b1 c1
  clear H0
  clear e1 b1 c1
  refine ef (xbx (t := 42) rfl rfl) ?_
  rintro _ w2 ⟨g3, e2, rfl, -, b2, c2⟩
  have H2 : Hold w [] w2 [rB g2 42 ([.int .i64 x1, .int .i64 x2, .int .i64 x3]), rB g3 42 ([.int .i64 y1, .int .i64 y2, .int .i64 y3])] := Hold.newB H1 e2 b2 c2
  clear H1
  clear e2 b2 c2
  have b3 : B w2 g2 42 ([.int .i64 x1, .int .i64 x2, .int .i64 x3]) := Hold.blk H2 0 rfl
  have b4 : B w2 g3 42 ([.int .i64 y1, .int .i64 y2, .int .i64 y3]) := Hold.blk H2 1 rfl
  refine r (sa rfl) (re (sq (sq (rg (r (fa Try.underlying42 rfl ti2 rfl rfl) (r (ldb Try.underlying2 rfl rfl b3 rfl) (r (fa Try.underlying42 rfl ti2 rfl rfl) (r (ldb Try.underlying2 rfl rfl b4 rfl) (r (bi rfl rfl rfl) (re ?_))))))))))
  refine cpn rfl (fun h0 => ?_) (fun h0 => ?_)
  · refine sq (rg (r (sa rfl) (re (rt ?_))))
    exact fin1 (v := .bool false) Try.results122 rfl ⟨congrArg Value.bool (decide_eq_false (fun e => by simp only [Prod.mk.injEq] at e; omega)).symm, Hold.ch H2⟩
  · refine sk (sq (sq (rg (r (fa Try.underlying42 rfl ti2 rfl rfl) (r (ldb Try.underlying2 rfl rfl b3 rfl) (r (fa Try.underlying42 rfl ti2 rfl rfl) (r (ldb Try.underlying2 rfl rfl b4 rfl) (r (bi rfl rfl rfl) (re ?_)))))))))
    refine cpn rfl (fun h1 => ?_) (fun h1 => ?_)
    · refine sq ?_
      refine gen (fun ρ => ρ 2 = .pointer (some ⟨g2, 0, none⟩) ∧ ρ 3 = .pointer (some ⟨g3, 0, none⟩) ∧ ρ 4 = .bool false ∧ True) ⟨rfl, rfl, rfl, trivial⟩ ?_
      rintro ρ ⟨z2, z3, z4, -⟩
      refine rg (r (sa rfl) (re (rt ?_)))
      exact fin1 (v := .bool false) Try.results122 rfl ⟨congrArg Value.bool (decide_eq_false (fun e => by simp only [Prod.mk.injEq] at e; omega)).symm, Hold.ch H2⟩
    · refine sk (sq (sq ?_))
      refine gen (fun ρ => ρ 2 = .pointer (some ⟨g2, 0, none⟩) ∧ ρ 3 = .pointer (some ⟨g3, 0, none⟩) ∧ ρ 4 = .bool false ∧ True) ⟨rfl, rfl, rfl, trivial⟩ ?_
      rintro ρ ⟨z2, z3, z4, -⟩
      refine rg (r (fa Try.underlying42 rfl ti2 rfl z2) (r (ldb Try.underlying2 rfl rfl b3 rfl) (r (fa Try.underlying42 rfl ti2 rfl z3) (r (ldb Try.underlying2 rfl rfl b4 rfl) (r (bi rfl rfl rfl) (re ?_))))))
      refine cpn rfl (fun h2 => ?_) (fun h2 => ?_)
      · refine sq (rg (r (sa rfl) (re (rt ?_))))
        exact fin1 (v := .bool false) Try.results122 rfl ⟨congrArg Value.bool (decide_eq_false (fun e => by simp only [Prod.mk.injEq] at e; omega)).symm, Hold.ch H2⟩
      · refine sk (sq (rg (r (sa rfl) (re (rt ?_)))))
        exact fin1 (v := .bool true) Try.results122 rfl ⟨congrArg Value.bool (decide_eq_true (by simp only [Prod.mk.injEq]; omega)).symm, Hold.ch H2⟩
theorem eqHeaderResult {w : World} {a b : Bool} {x1 x2 x3 y1 y2 y3 : Int} : Ret Try.prog 63 #[.agg #[.bool a, .int .i64 x1, .int .i64 x2, .int .i64 x3], .agg #[.bool b, .int .i64 y1, .int .i64 y2, .int .i64 y3]] w (fun r w' => r = .bool (decide ((a, x1, x2, x3) = (b, y1, y2, y3))) ∧ Ch [] w w') := by
  refine enter Try.func63 rfl Try.ntmps63 (by rfl) (by rfl) ?_
  have H0 : Hold w [] w [] := Hold.start w
  refine sq (rg (ef (xbx (t := 80) rfl rfl) ?_))
  rintro _ w1 ⟨g2, e1, rfl, -, b1, c1⟩
  have H1 : Hold w [] w1 [rB g2 80 ([.bool a, .int .i64 x1, .int .i64 x2, .int .i64 x3])] := Hold.newB H0 e1 b1 c1
  clear H0
  clear e1 b1 c1
  refine ef (xbx (t := 80) rfl rfl) ?_
  rintro _ w2 ⟨g3, e2, rfl, -, b2, c2⟩
  have H2 : Hold w [] w2 [rB g2 80 ([.bool a, .int .i64 x1, .int .i64 x2, .int .i64 x3]), rB g3 80 ([.bool b, .int .i64 y1, .int .i64 y2, .int .i64 y3])] := Hold.newB H1 e2 b2 c2
  clear H1
  clear e2 b2 c2
  have b3 : B w2 g2 80 ([.bool a, .int .i64 x1, .int .i64 x2, .int .i64 x3]) := Hold.blk H2 0 rfl
  have b4 : B w2 g3 80 ([.bool b, .int .i64 y1, .int .i64 y2, .int .i64 y3]) := Hold.blk H2 1 rfl
  refine r (sa rfl) (re (sq (sq (rg (r (fa Try.underlying80 rfl ti4 rfl rfl) (r (ldb Try.underlying4 rfl rfl b3 rfl) (r (fa Try.underlying80 rfl ti4 rfl rfl) (r (ldb Try.underlying4 rfl rfl b4 rfl) (r (bne_ Try.underlying4 rfl rfl) (re ?_))))))))))
  refine cd rfl (fun h => ?_) (fun h => ?_)
  · refine sq (rg (r (sa rfl) (re (rt ?_))))
    exact fin1 (v := .bool false) Try.results63 rfl ⟨congrArg Value.bool (decide_eq_false (fun e => by simp only [Prod.mk.injEq] at e; simp [e.1] at h)).symm, Hold.ch H2⟩
  · have hab : a = b := by simpa using h
    refine sk (sq (sq (rg (r (fa Try.underlying80 rfl ti42 rfl rfl) (r (lab [.int .i64 x1, .int .i64 x2, .int .i64 x3] Try.underlying42 rfl ti42 rfl b3 rfl rfl) (r (fa Try.underlying80 rfl ti42 rfl rfl) (r (lab [.int .i64 y1, .int .i64 y2, .int .i64 y3] Try.underlying42 rfl ti42 rfl b4 rfl rfl) (cl go122 (eqHeader) (ac rfl (ac rfl an)) ?_))))))))
    rintro r wq ⟨rfl, cq⟩
    have H3 : Hold w [] wq [rB g2 80 ([.bool a, .int .i64 x1, .int .i64 x2, .int .i64 x3]), rB g3 80 ([.bool b, .int .i64 y1, .int .i64 y2, .int .i64 y3])] := Hold.t H2 cq
    clear H2
    clear cq
    refine r (nt rfl) (re ?_)
    refine cpn rfl (fun h2 => ?_) (fun h2 => ?_)
    · refine sq ?_
      refine gen (fun ρ => ρ 4 = .bool false ∧ True) ⟨rfl, trivial⟩ ?_
      rintro ρ ⟨z4, -⟩
      refine rg (r (sa rfl) (re (rt ?_)))
      exact fin1 (v := .bool false) Try.results63 rfl ⟨congrArg Value.bool (decide_eq_false (fun e => h2 (by simp only [Prod.mk.injEq] at e ⊢; exact e.2))).symm, Hold.ch H3⟩
    · refine sk (sq ?_)
      refine gen (fun ρ => ρ 4 = .bool false ∧ True) ⟨rfl, trivial⟩ ?_
      rintro ρ ⟨z4, -⟩
      refine rg (r (sa rfl) (re (rt ?_)))
      exact fin1 (v := .bool true) Try.results63 rfl ⟨congrArg Value.bool (decide_eq_true (by simp only [Prod.mk.injEq] at h2 ⊢; exact ⟨hab, h2⟩)).symm, Hold.ch H3⟩
theorem w_FnExactDecodeHeader {w : World} {F : List Nat} {v : Value} {xs : List Int} (hx : u8.R w F v xs) (l0 : xs.length ≤ 9223372036854775807) (ok : ok8 xs) :
    Ret Try.prog 12 #[v] w (fun r w' => r = .bool true ∧ Ch [] w w') := by
  refine enter Try.func12 rfl Try.ntmps12 (by rfl) (by rfl) ?_
  have H0 : Hold w [] w [] := Hold.start w
  refine sq (rg (r (sa rfl) (re (sq (sq (rg (r (mv rfl) (r (ln Try.underlying40 rfl ((hx.t (Hold.ch H0)))) (r (bi rfl rfl rfl) (re ?_))))))))))
  refine cp rfl (fun h => ?_) (fun h => ?_)
  · refine sq (rg (r (sa rfl) (re (rt ?_))))
    exact fin1 (v := .bool true) Try.results12 rfl ⟨rfl, Hold.ch H0⟩
  · have lx : xs.length ≤ 1000000000 := by omega
    refine sk (sq (rg (r (mv rfl) (cl go61 (toByteS_H (hx.t (Hold.ch H0)) (by first | assumption | omega | (simp; omega))) (ac rfl an) ?_))))
    rintro r1 wt1 Ht1
    have H1 : Hold w [] wt1 [rR u8 5 r1 xs] := Hold.news H0 Ht1
    clear H0
    clear Ht1
    obtain ⟨_, R5⟩ : ∃ F, Kd.R u8 wt1 F r1 xs := Hold.row H1 0 rfl
    refine cl go60 (spec_DecodeHeader R5 (by first | assumption | omega | (simp; omega)) (by assumption)) (ac rfl an) ?_
    rintro r wd3 ⟨rfl, cd3⟩
    have H2 : Hold w [] wd3 [rR u8 5 r1 xs] := Hold.t H1 cd3
    clear H1
    clear cd3
    refine ef (xal ti80) ?_
    rintro _ w6 ⟨g3, e6, rfl, -, b6, c6⟩
    have H3 : Hold w [] w6 [rR u8 5 r1 xs, rB g3 80 ([.bool false, .int .i64 0, .int .i64 0, .int .i64 0])] := Hold.newB H2 e6 b6 c6
    clear H2
    clear e6 b6 c6
    have b7 : B w6 g3 80 ([.bool false, .int .i64 0, .int .i64 0, .int .i64 0]) := Hold.blk H3 1 rfl
    refine ef0 (xst (vs := [.bool (decide (decH xs)), .int .i64 (dV xs (hq xs)), .int .i64 (dV xs (hs_ xs)), .int .i64 (dV xs (hb_ xs))]) ti80 rfl rfl rfl b7 rfl (Nat.le_of_ble_eq_true rfl) (one_all rfl)) ?_
    rintro w8 ⟨-, b8, c8⟩
    have H4 : Hold w [] w8 [rR u8 5 r1 xs, rB g3 80 ([.bool (decide (decH xs)), .int .i64 (dV xs (hq xs)), .int .i64 (dV xs (hs_ xs)), .int .i64 (dV xs (hb_ xs))])] := Hold.setB H3 1 rfl b8 c8 rfl
    clear H3
    clear b8 c8
    refine re (sq (rg (r (mv rfl) (cl go61 (toByteS_H (hx.t (Hold.ch H4)) (by first | assumption | omega | (simp; omega))) (ac rfl an) ?_))))
    rintro r9 wt9 Ht9
    have H5 : Hold w [] wt9 [rR u8 5 r1 xs, rB g3 80 ([.bool (decide (decH xs)), .int .i64 (dV xs (hq xs)), .int .i64 (dV xs (hs_ xs)), .int .i64 (dV xs (hb_ xs))]), rR u8 5 r9 xs] := Hold.news H4 Ht9
    clear H4
    clear Ht9
    refine r (sa rfl) (re (sq ?_))
    refine gen (fun ρ => ρ 0 = v ∧ ρ 2 = .bool false ∧ ρ 3 = .pointer (some ⟨g3, 0, none⟩) ∧ ρ 4 = r9 ∧ True) ⟨rfl, rfl, rfl, rfl, trivial⟩ ?_
    rintro ρ ⟨z0, z2, z3, z4, -⟩
    obtain ⟨_, R13⟩ : ∃ F, Kd.R u8 wt9 F r9 xs := Hold.row H5 2 rfl
    refine rg (r (mv z4) (cl go62 (impl_DecodeHeader R13 (by first | assumption | omega | (simp; omega)) (by assumption)) (ac rfl an) ?_))
    rintro r wd11 ⟨rfl, cd11⟩
    have H6 : Hold w [] wd11 [rR u8 5 r1 xs, rB g3 80 ([.bool (decide (decH xs)), .int .i64 (dV xs (hq xs)), .int .i64 (dV xs (hs_ xs)), .int .i64 (dV xs (hb_ xs))]), rR u8 5 r9 xs] := Hold.t H5 cd11
    clear H5
    clear cd11
    refine ef (xal ti80) ?_
    rintro _ w14 ⟨g5, e14, rfl, -, b14, c14⟩
    have H7 : Hold w [] w14 [rR u8 5 r1 xs, rB g3 80 ([.bool (decide (decH xs)), .int .i64 (dV xs (hq xs)), .int .i64 (dV xs (hs_ xs)), .int .i64 (dV xs (hb_ xs))]), rR u8 5 r9 xs, rB g5 80 ([.bool false, .int .i64 0, .int .i64 0, .int .i64 0])] := Hold.newB H6 e14 b14 c14
    clear H6
    clear e14 b14 c14
    have b15 : B w14 g5 80 ([.bool false, .int .i64 0, .int .i64 0, .int .i64 0]) := Hold.blk H7 3 rfl
    refine ef0 (xst (vs := [.bool (decide (decH xs)), .int .i64 (dV xs (hq xs)), .int .i64 (dV xs (hs_ xs)), .int .i64 (dV xs (hb_ xs))]) ti80 rfl rfl rfl b15 rfl (Nat.le_of_ble_eq_true rfl) (one_all rfl)) ?_
    rintro w16 ⟨-, b16, c16⟩
    have H8 : Hold w [] w16 [rR u8 5 r1 xs, rB g3 80 ([.bool (decide (decH xs)), .int .i64 (dV xs (hq xs)), .int .i64 (dV xs (hs_ xs)), .int .i64 (dV xs (hb_ xs))]), rR u8 5 r9 xs, rB g5 80 ([.bool (decide (decH xs)), .int .i64 (dV xs (hq xs)), .int .i64 (dV xs (hs_ xs)), .int .i64 (dV xs (hb_ xs))])] := Hold.setB H7 3 rfl b16 c16 rfl
    clear H7
    clear b16 c16
    have b17 : B w16 g5 80 ([.bool (decide (decH xs)), .int .i64 (dV xs (hq xs)), .int .i64 (dV xs (hs_ xs)), .int .i64 (dV xs (hb_ xs))]) := Hold.blk H8 3 rfl
    have b18 : B w16 g3 80 ([.bool (decide (decH xs)), .int .i64 (dV xs (hq xs)), .int .i64 (dV xs (hs_ xs)), .int .i64 (dV xs (hb_ xs))]) := Hold.blk H8 1 rfl
    refine re (sq (sq (rg (r (lab [.bool (decide (decH xs)), .int .i64 (dV xs (hq xs)), .int .i64 (dV xs (hs_ xs)), .int .i64 (dV xs (hb_ xs))] Try.underlying80 rfl ti80 rfl b17 rfl rfl) (r (lab [.bool (decide (decH xs)), .int .i64 (dV xs (hq xs)), .int .i64 (dV xs (hs_ xs)), .int .i64 (dV xs (hb_ xs))] Try.underlying80 rfl ti80 z3 b18 rfl rfl) (cl go63 (eqHeaderResult) (ac rfl (ac rfl an)) ?_))))))
    rintro r wq19 ⟨rfl, cq19⟩
    have H9 : Hold w [] wq19 [rR u8 5 r1 xs, rB g3 80 ([.bool (decide (decH xs)), .int .i64 (dV xs (hq xs)), .int .i64 (dV xs (hs_ xs)), .int .i64 (dV xs (hb_ xs))]), rR u8 5 r9 xs, rB g5 80 ([.bool (decide (decH xs)), .int .i64 (dV xs (hq xs)), .int .i64 (dV xs (hs_ xs)), .int .i64 (dV xs (hb_ xs))])] := Hold.t H8 cq19
    clear H8
    clear cq19
    refine r (nt rfl) (re ?_)
    refine cf ((rfl : _ = Value.bool (!(decide ((decide (decH xs), dV xs (hq xs), dV xs (hs_ xs), dV xs (hb_ xs)) = (decide (decH xs), dV xs (hq xs), dV xs (hs_ xs), dV xs (hb_ xs)))))).trans (congrArg Value.bool (show (!(decide ((decide (decH xs), dV xs (hq xs), dV xs (hs_ xs), dV xs (hb_ xs)) = (decide (decH xs), dV xs (hq xs), dV xs (hs_ xs), dV xs (hb_ xs))))) = false from (by rw [decide_eq_true rfl]; rfl)))) ?_
    refine sk (sq (sq (rg (r (mv z4) (r (mv z0) (cl go61 (toByteS_H (hx.t (Hold.ch H9)) (by first | assumption | omega | (simp; omega))) (ac rfl an) ?_))))))
    rintro r21 wt21 Ht21
    have H10 : Hold w [] wt21 [rR u8 5 r1 xs, rB g3 80 ([.bool (decide (decH xs)), .int .i64 (dV xs (hq xs)), .int .i64 (dV xs (hs_ xs)), .int .i64 (dV xs (hb_ xs))]), rR u8 5 r9 xs, rB g5 80 ([.bool (decide (decH xs)), .int .i64 (dV xs (hq xs)), .int .i64 (dV xs (hs_ xs)), .int .i64 (dV xs (hb_ xs))]), rR u8 5 r21 xs] := Hold.news H9 Ht21
    clear H9
    clear Ht21
    obtain ⟨_, R25⟩ : ∃ F, Kd.R u8 wt21 F r9 xs := Hold.row H10 2 rfl
    obtain ⟨_, R26⟩ : ∃ F, Kd.R u8 wt21 F r21 xs := Hold.row H10 4 rfl
    refine cl go36 (eqByteS R25 R26 (by first | assumption | omega | (simp; omega))) (ac rfl (ac rfl an)) ?_
    rintro r wq23 ⟨rfl, cq23⟩
    have H11 : Hold w [] wq23 [rR u8 5 r1 xs, rB g3 80 ([.bool (decide (decH xs)), .int .i64 (dV xs (hq xs)), .int .i64 (dV xs (hs_ xs)), .int .i64 (dV xs (hb_ xs))]), rR u8 5 r9 xs, rB g5 80 ([.bool (decide (decH xs)), .int .i64 (dV xs (hq xs)), .int .i64 (dV xs (hs_ xs)), .int .i64 (dV xs (hb_ xs))]), rR u8 5 r21 xs] := Hold.t H10 cq23
    clear H10
    clear cq23
    refine r (nt rfl) (re ?_)
    refine cf ((rfl : _ = Value.bool (!(decide (xs = xs)))).trans (congrArg Value.bool (show (!(decide (xs = xs))) = false from (by rw [decide_eq_true rfl]; rfl)))) ?_
    refine sk (sq ?_)
    refine gen (fun ρ => ρ 2 = .bool false ∧ True) ⟨z2, trivial⟩ ?_
    rintro ρ ⟨z2, -⟩
    refine rg (r (sa rfl) (re (rt ?_)))
    exact fin1 (v := .bool true) Try.results12 rfl ⟨rfl, Hold.ch H11⟩
end Go.Proofs.Ytgpcanjmgdmdhaa
