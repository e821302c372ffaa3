/-
  THE LAW'S WALK: DecodeTable. No condition.
-/
import Derived.Test.Ytgpcanjmgdmdhaa22
namespace Go.Proofs.Ytgpcanjmgdmdhaa
open Go Go.Eng
set_option maxRecDepth 100000
set_option maxHeartbeats 4000000
set_option linter.unusedVariables false
theorem ok8_of {xs : List Int} (h : ∀ x, x ∈ xs → (Lit.int .u8 x).wf = true) : ok8 xs := fun x hx => by
  have := h x hx
  simp [Lit.wf, IntKind.min, IntKind.max, IntKind.signed, IntKind.bits] at this
  omega
theorem w_FnExactDecodeTable {w : World} {F : List Nat} {v : Value} {xs : List Int} (hx : u8.R w F v xs) (l0 : xs.length ≤ 9223372036854775807) (ok : ok8 xs) :
    Ret Try.prog 14 #[v] w (fun r w' => r = .bool true ∧ Ch [] w w') := by
  refine enter Try.func14 rfl Try.ntmps14 (by rfl) (by rfl) ?_
  have H0 : Hold w [] w [] := Hold.start w
  refine sq (rg (r (sa rfl) (re (sq (sq (rg (r (mv rfl) (r (ln Try.underlying40 rfl ((hx.t (Hold.ch H0)))) (r (bi rfl rfl rfl) (re ?_))))))))))
  refine cp rfl (fun h => ?_) (fun h => ?_)
  · refine sq (rg (r (sa rfl) (re (rt ?_))))
    exact fin1 (v := .bool true) Try.results14 rfl ⟨rfl, Hold.ch H0⟩
  · have lx : xs.length ≤ 1000000000 := by omega
    have hl := decTable_len xs
    refine sk (sq (rg (r (mv rfl) (cl go61 (toByteS_H (hx.t (Hold.ch H0)) (by first | assumption | omega | (simp; omega))) (ac rfl an) ?_))))
    rintro r1 wt1 Ht1
    have H1 : Hold w [] wt1 [rR u8 5 r1 xs] := Hold.news H0 Ht1
    clear H0
    clear Ht1
    obtain ⟨_, R5⟩ : ∃ F, Kd.R u8 wt1 F r1 xs := Hold.row H1 0 rfl
    refine cl go65 (spec_DecodeTable R5 (by first | assumption | omega | (simp; omega)) (by assumption)) (ac rfl an) ?_
    rintro r wd3 ⟨t3, rfl, Hd3⟩
    have H2 : Hold w [] wd3 [rR u8 5 r1 xs, rR kE 70 t3 ((decTable xs).2)] := Hold.news H1 Hd3
    clear H1
    clear Hd3
    refine ef (xal ti86) ?_
    rintro _ w6 ⟨g3, e6, rfl, -, b6, c6⟩
    have H3 : Hold w [] w6 [rR u8 5 r1 xs, rR kE 70 t3 ((decTable xs).2), rB g3 86 ([.bool false, .slice none 0 0])] := Hold.newB H2 e6 b6 c6
    clear H2
    clear e6 b6 c6
    have b7 : B w6 g3 86 ([.bool false, .slice none 0 0]) := Hold.blk H3 2 rfl
    obtain ⟨_, R9⟩ : ∃ F, Kd.R kE w6 F t3 ((decTable xs).2) := Hold.row H3 1 rfl
    refine ef0 (xst (vs := [.bool ((decTable xs).1), t3]) ti86 rfl rfl rfl b7 rfl (Nat.le_of_ble_eq_true rfl) (oc rfl (oc (R9).oneCell on))) ?_
    rintro w8 ⟨-, b8, c8⟩
    have H4 : Hold w [] w8 [rR u8 5 r1 xs, rR kE 70 t3 ((decTable xs).2), rB g3 86 ([.bool ((decTable xs).1), t3])] := Hold.setB H3 2 rfl b8 c8 rfl
    clear H3
    clear b8 c8
    refine re (sq (rg (r (mv rfl) (cl go61 (toByteS_H (hx.t (Hold.ch H4)) (by first | assumption | omega | (simp; omega))) (ac rfl an) ?_))))
    rintro r10 wt10 Ht10
    have H5 : Hold w [] wt10 [rR u8 5 r1 xs, rR kE 70 t3 ((decTable xs).2), rB g3 86 ([.bool ((decTable xs).1), t3]), rR u8 5 r10 xs] := Hold.news H4 Ht10
    clear H4
    clear Ht10
    refine r (sa rfl) (re (sq ?_))
    refine gen (fun ρ => ρ 0 = v ∧ ρ 2 = .bool false ∧ ρ 3 = .pointer (some ⟨g3, 0, none⟩) ∧ ρ 4 = r10 ∧ True) ⟨rfl, rfl, rfl, rfl, trivial⟩ ?_
    rintro ρ ⟨z0, z2, z3, z4, -⟩
    obtain ⟨_, R14⟩ : ∃ F, Kd.R u8 wt10 F r10 xs := Hold.row H5 3 rfl
    refine rg (r (mv z4) (cl go66 (impl_DecodeTable R14 (by first | assumption | omega | (simp; omega)) (by assumption)) (ac rfl an) ?_))
    rintro r wd12 ⟨t12, rfl, Hd12⟩
    have H6 : Hold w [] wd12 [rR u8 5 r1 xs, rR kE 70 t3 ((decTable xs).2), rB g3 86 ([.bool ((decTable xs).1), t3]), rR u8 5 r10 xs, rR kE 70 t12 ((decTable xs).2)] := Hold.news H5 Hd12
    clear H5
    clear Hd12
    refine ef (xal ti86) ?_
    rintro _ w15 ⟨g5, e15, rfl, -, b15, c15⟩
    have H7 : Hold w [] w15 [rR u8 5 r1 xs, rR kE 70 t3 ((decTable xs).2), rB g3 86 ([.bool ((decTable xs).1), t3]), rR u8 5 r10 xs, rR kE 70 t12 ((decTable xs).2), rB g5 86 ([.bool false, .slice none 0 0])] := Hold.newB H6 e15 b15 c15
    clear H6
    clear e15 b15 c15
    have b16 : B w15 g5 86 ([.bool false, .slice none 0 0]) := Hold.blk H7 5 rfl
    obtain ⟨_, R18⟩ : ∃ F, Kd.R kE w15 F t12 ((decTable xs).2) := Hold.row H7 4 rfl
    refine ef0 (xst (vs := [.bool ((decTable xs).1), t12]) ti86 rfl rfl rfl b16 rfl (Nat.le_of_ble_eq_true rfl) (oc rfl (oc (R18).oneCell on))) ?_
    rintro w17 ⟨-, b17, c17⟩
    have H8 : Hold w [] w17 [rR u8 5 r1 xs, rR kE 70 t3 ((decTable xs).2), rB g3 86 ([.bool ((decTable xs).1), t3]), rR u8 5 r10 xs, rR kE 70 t12 ((decTable xs).2), rB g5 86 ([.bool ((decTable xs).1), t12])] := Hold.setB H7 5 rfl b17 c17 rfl
    clear H7
    clear b17 c17
    have b19 : B w17 g5 86 ([.bool ((decTable xs).1), t12]) := Hold.blk H8 5 rfl
    have b20 : B w17 g3 86 ([.bool ((decTable xs).1), t3]) := Hold.blk H8 2 rfl
    obtain ⟨_, R23⟩ : ∃ F, Kd.R kE w17 F t12 ((decTable xs).2) := Hold.row H8 4 rfl
    obtain ⟨_, R24⟩ : ∃ F, Kd.R kE w17 F t3 ((decTable xs).2) := Hold.row H8 1 rfl
    refine re (sq (sq (rg (r (lab [.bool ((decTable xs).1), t12] Try.underlying86 rfl ti86 rfl b19 rfl rfl) (r (lab [.bool ((decTable xs).1), t3] Try.underlying86 rfl ti86 z3 b20 rfl rfl) (cl go67 (eqTableResult R23 R24 (by first | assumption | omega | (simp; omega))) (ac rfl (ac rfl an)) ?_))))))
    rintro r wq21 ⟨rfl, cq21⟩
    have H9 : Hold w [] wq21 [rR u8 5 r1 xs, rR kE 70 t3 ((decTable xs).2), rB g3 86 ([.bool ((decTable xs).1), t3]), rR u8 5 r10 xs, rR kE 70 t12 ((decTable xs).2), rB g5 86 ([.bool ((decTable xs).1), t12])] := Hold.t H8 cq21
    clear H8
    clear cq21
    refine r (nt rfl) (re ?_)
    refine cf ((rfl : _ = Value.bool (!(decide (((decTable xs).1, (decTable xs).2) = ((decTable xs).1, (decTable xs).2))))).trans (congrArg Value.bool (show (!(decide (((decTable xs).1, (decTable xs).2) = ((decTable xs).1, (decTable xs).2)))) = false from (by rw [decide_eq_true rfl]; rfl)))) ?_
    refine sk (sq (sq (rg (r (mv z4) (r (mv z0) (cl go61 (toByteS_H (hx.t (Hold.ch H9)) (by first | assumption | omega | (simp; omega))) (ac rfl an) ?_))))))
    rintro r25 wt25 Ht25
    have H10 : Hold w [] wt25 [rR u8 5 r1 xs, rR kE 70 t3 ((decTable xs).2), rB g3 86 ([.bool ((decTable xs).1), t3]), rR u8 5 r10 xs, rR kE 70 t12 ((decTable xs).2), rB g5 86 ([.bool ((decTable xs).1), t12]), rR u8 5 r25 xs] := Hold.news H9 Ht25
    clear H9
    clear Ht25
    obtain ⟨_, R29⟩ : ∃ F, Kd.R u8 wt25 F r10 xs := Hold.row H10 3 rfl
    obtain ⟨_, R30⟩ : ∃ F, Kd.R u8 wt25 F r25 xs := Hold.row H10 6 rfl
    refine cl go36 (eqByteS R29 R30 (by first | assumption | omega | (simp; omega))) (ac rfl (ac rfl an)) ?_
    rintro r wq27 ⟨rfl, cq27⟩
    have H11 : Hold w [] wq27 [rR u8 5 r1 xs, rR kE 70 t3 ((decTable xs).2), rB g3 86 ([.bool ((decTable xs).1), t3]), rR u8 5 r10 xs, rR kE 70 t12 ((decTable xs).2), rB g5 86 ([.bool ((decTable xs).1), t12]), rR u8 5 r25 xs] := Hold.t H10 cq27
    clear H10
    clear cq27
    refine r (nt rfl) (re ?_)
    refine cf ((rfl : _ = Value.bool (!(decide (xs = xs)))).trans (congrArg Value.bool (show (!(decide (xs = xs))) = false from (by rw [decide_eq_true rfl]; rfl)))) ?_
    refine sk (sq ?_)
    refine gen (fun ρ => ρ 0 = v ∧ ρ 2 = .bool false ∧ ρ 3 = .pointer (some ⟨g3, 0, none⟩) ∧ ρ 4 = r10 ∧ ρ 5 = .pointer (some ⟨g5, 0, none⟩) ∧ True) ⟨z0, z2, z3, z4, rfl, trivial⟩ ?_
    rintro ρ ⟨z0, z2, z3, z4, z5, -⟩
    have H12 : Hold w [] wq27 [rR u8 5 r10 xs, rR u8 5 r1 xs, rR kE 70 t3 ((decTable xs).2), rB g3 86 ([.bool ((decTable xs).1), t3]), rR kE 70 t12 ((decTable xs).2), rB g5 86 ([.bool ((decTable xs).1), t12]), rR u8 5 r25 xs] := Hold.re H11 [3, 0, 1, 2, 4, 5, 6] (by rfl) (by rfl)
    clear H11
    obtain ⟨F32, hF32, n32, s32, K32⟩ := Hold.front (Γ := [rR u8 5 r10 xs]) (Δ := [rR u8 5 r1 xs, rR kE 70 t3 ((decTable xs).2), rB g3 86 ([.bool ((decTable xs).1), t3]), rR kE 70 t12 ((decTable xs).2), rB g5 86 ([.bool ((decTable xs).1), t12]), rR u8 5 r25 xs]) H12
    refine rg (r (sa rfl) (re (sq (rg (r (mv z4) (r (mv rfl) (cl go37 (markByteS_H hF32 n32 (by omega) (by first | assumption | omega | (simp; omega))) (ac rfl (ac rfl an)) ?_)))))))
    rintro r wm31 ⟨rfl, Hm31⟩
    have H13 : Hold w [] wm31 [rR u8 5 r10 (marks 1 xs.length), rR u8 5 r1 xs, rR kE 70 t3 ((decTable xs).2), rB g3 86 ([.bool ((decTable xs).1), t3]), rR kE 70 t12 ((decTable xs).2), rB g5 86 ([.bool ((decTable xs).1), t12]), rR u8 5 r25 xs] := Hold.call K32 Hm31
    clear H12
    clear K32 hF32 n32 s32
    clear Hm31
    refine r (sa rfl) (re (sq (sq (rg (r (mv rfl) (r (bi rfl rfl rfl) (r (mv rfl) ?_)))))))
    refine spf 34 rfl (show (decide ((1 + (xs.length : Int)) < 0)) = false from (decide_eq_false (by omega))) ?_
    have b33 : B wm31 g5 86 ([.bool ((decTable xs).1), t12]) := Hold.blk H13 5 rfl
    have b34 : B wm31 g3 86 ([.bool ((decTable xs).1), t3]) := Hold.blk H13 3 rfl
    obtain ⟨_, R37⟩ : ∃ F, Kd.R kE wm31 F t12 ((decTable xs).2) := Hold.row H13 4 rfl
    obtain ⟨_, R38⟩ : ∃ F, Kd.R kE wm31 F t3 ((decTable xs).2) := Hold.row H13 2 rfl
    refine gy rfl rfl rfl (r (lab [.bool ((decTable xs).1), t12] Try.underlying86 rfl ti86 z5 b33 rfl rfl) (gy rfl rfl rfl (r (lab [.bool ((decTable xs).1), t3] Try.underlying86 rfl ti86 z3 b34 rfl rfl) (gy rfl rfl rfl (cl go67 (eqTableResult R37 R38 (by first | assumption | omega | (simp; omega))) (ac rfl (ac rfl an)) ?_)))))
    rintro r wq35 ⟨rfl, cq35⟩
    have H14 : Hold w [] wq35 [rR u8 5 r10 (marks 1 xs.length), rR u8 5 r1 xs, rR kE 70 t3 ((decTable xs).2), rB g3 86 ([.bool ((decTable xs).1), t3]), rR kE 70 t12 ((decTable xs).2), rB g5 86 ([.bool ((decTable xs).1), t12]), rR u8 5 r25 xs] := Hold.t H13 cq35
    clear H13
    clear cq35
    refine gy rfl rfl rfl (r (nt rfl) (r (pk rfl rfl) (re ?_)))
    refine cf ((rfl : _ = Value.bool (!(decide (((decTable xs).1, (decTable xs).2) = ((decTable xs).1, (decTable xs).2))))).trans (congrArg Value.bool (show (!(decide (((decTable xs).1, (decTable xs).2) = ((decTable xs).1, (decTable xs).2)))) = false from (by rw [decide_eq_true rfl]; rfl)))) ?_
    refine sk (sq ?_)
    refine gen (fun ρ => ρ 0 = v ∧ ρ 2 = .bool false ∧ ρ 3 = .pointer (some ⟨g3, 0, none⟩) ∧ ρ 5 = .pointer (some ⟨g5, 0, none⟩) ∧ True) ⟨z0, z2, z3, z5, trivial⟩ ?_
    rintro ρ ⟨z0, z2, z3, z5, -⟩
    have b39 : B wq35 g5 86 ([.bool ((decTable xs).1), t12]) := Hold.blk H14 5 rfl
    have H15 : Hold w [] wq35 [rR kE 70 t12 ((decTable xs).2), rR u8 5 r10 (marks 1 xs.length), rR u8 5 r1 xs, rR kE 70 t3 ((decTable xs).2), rB g3 86 ([.bool ((decTable xs).1), t3]), rB g5 86 ([.bool ((decTable xs).1), t12]), rR u8 5 r25 xs] := Hold.re H14 [4, 0, 1, 2, 3, 5, 6] (by rfl) (by rfl)
    clear H14
    obtain ⟨F41, hF41, n41, s41, K41⟩ := Hold.front (Γ := [rR kE 70 t12 ((decTable xs).2)]) (Δ := [rR u8 5 r10 (marks 1 xs.length), rR u8 5 r1 xs, rR kE 70 t3 ((decTable xs).2), rB g3 86 ([.bool ((decTable xs).1), t3]), rB g5 86 ([.bool ((decTable xs).1), t12]), rR u8 5 r25 xs]) H15
    refine rg (r (sa rfl) (re (sq (rg (r (lab [.bool ((decTable xs).1), t12] Try.underlying86 rfl ti86 z5 b39 rfl rfl) (r (mv rfl) (cl go68 (markTableResult_H hF41 n41 (by omega) (by first | assumption | omega | (simp; omega))) (ac rfl (ac rfl an)) ?_)))))))
    rintro r wm40 ⟨rfl, Hm40⟩
    have H16 : Hold w [] wm40 [rR kE 70 t12 (marksE 1 ((decTable xs).2).length), rR u8 5 r10 (marks 1 xs.length), rR u8 5 r1 xs, rR kE 70 t3 ((decTable xs).2), rB g3 86 ([.bool ((decTable xs).1), t3]), rB g5 86 ([.bool ((decTable xs).1), t12]), rR u8 5 r25 xs] := Hold.call K41 Hm40
    clear H15
    clear K41 hF41 n41 s41
    clear Hm40
    have b42 : B wm40 g5 86 ([.bool ((decTable xs).1), t12]) := Hold.blk H16 5 rfl
    obtain ⟨_, R45⟩ : ∃ F, Kd.R kE wm40 F t12 (marksE 1 ((decTable xs).2).length) := Hold.row H16 0 rfl
    refine r (sa rfl) (re (sq (rg (r (sa rfl) (re (sq (rg (r (lab [.bool ((decTable xs).1), t12] Try.underlying86 rfl ti86 z5 b42 rfl rfl) (r (mv rfl) (cl go69 (heldTableResult (n := ((decTable xs).2).length) R45 (by omega) (by first | assumption | omega | (simp; omega))) (ac rfl (ac rfl an)) ?_))))))))))
    rintro r wh43 ⟨rfl, ch43⟩
    have H17 : Hold w [] wh43 [rR kE 70 t12 (marksE 1 ((decTable xs).2).length), rR u8 5 r10 (marks 1 xs.length), rR u8 5 r1 xs, rR kE 70 t3 ((decTable xs).2), rB g3 86 ([.bool ((decTable xs).1), t3]), rB g5 86 ([.bool ((decTable xs).1), t12]), rR u8 5 r25 xs] := Hold.t H16 ch43
    clear H16
    clear ch43
    refine r (sa rfl) (re (sq (sq ?_)))
    refine gen (fun ρ => ρ 0 = v ∧ ρ 2 = .bool false ∧ ρ 3 = .pointer (some ⟨g3, 0, none⟩) ∧ ρ 7 = .int .i64 (1 + 2 * (((decTable xs).2).length : Int)) ∧ ρ 8 = .int .i64 (1 + 2 * ((((decTable xs).2).length : Nat) : Int)) ∧ True) ⟨z0, z2, z3, rfl, rfl, trivial⟩ ?_
    rintro ρ ⟨z0, z2, z3, z7, z8, -⟩
    refine rg (r (mv z8) (r (bi rfl rfl rfl) (re ?_)))
    refine cf ((rfl : _ = Value.bool (decide ((1 + 2 * ((((decTable xs).2).length : Nat) : Int)) < 0))).trans (congrArg Value.bool (show (decide ((1 + 2 * ((((decTable xs).2).length : Nat) : Int)) < 0)) = false from (decide_eq_false (by omega))))) ?_
    refine sk (sq (sq (rg (r (mv z8) (r (mv z7) (r (bi rfl rfl rfl) (re ?_)))))))
    refine cf ((rfl : _ = Value.bool (!decide ((1 + 2 * ((((decTable xs).2).length : Nat) : Int)) = (1 + 2 * (((decTable xs).2).length : Int))))).trans (congrArg Value.bool (show (!decide ((1 + 2 * ((((decTable xs).2).length : Nat) : Int)) = (1 + 2 * (((decTable xs).2).length : Int)))) = false from (by rw [decide_eq_true (by omega)]; rfl)))) ?_
    refine sk (sq (rg (r (mv z0) (cl go61 (toByteS_H (hx.t (Hold.ch H17)) (by first | assumption | omega | (simp; omega))) (ac rfl an) ?_))))
    rintro r46 wt46 Ht46
    have H18 : Hold w [] wt46 [rR kE 70 t12 (marksE 1 ((decTable xs).2).length), rR u8 5 r10 (marks 1 xs.length), rR u8 5 r1 xs, rR kE 70 t3 ((decTable xs).2), rB g3 86 ([.bool ((decTable xs).1), t3]), rB g5 86 ([.bool ((decTable xs).1), t12]), rR u8 5 r25 xs, rR u8 5 r46 xs] := Hold.news H17 Ht46
    clear H17
    clear Ht46
    obtain ⟨_, R50⟩ : ∃ F, Kd.R u8 wt46 F r46 xs := Hold.row H18 7 rfl
    refine cl go66 (impl_DecodeTable R50 (by first | assumption | omega | (simp; omega)) (by assumption)) (ac rfl an) ?_
    rintro r wd48 ⟨t48, rfl, Hd48⟩
    have H19 : Hold w [] wd48 [rR kE 70 t12 (marksE 1 ((decTable xs).2).length), rR u8 5 r10 (marks 1 xs.length), rR u8 5 r1 xs, rR kE 70 t3 ((decTable xs).2), rB g3 86 ([.bool ((decTable xs).1), t3]), rB g5 86 ([.bool ((decTable xs).1), t12]), rR u8 5 r25 xs, rR u8 5 r46 xs, rR kE 70 t48 ((decTable xs).2)] := Hold.news H18 Hd48
    clear H18
    clear Hd48
    refine ef (xal ti86) ?_
    rintro _ w51 ⟨g9, e51, rfl, -, b51, c51⟩
    have H20 : Hold w [] w51 [rR kE 70 t12 (marksE 1 ((decTable xs).2).length), rR u8 5 r10 (marks 1 xs.length), rR u8 5 r1 xs, rR kE 70 t3 ((decTable xs).2), rB g3 86 ([.bool ((decTable xs).1), t3]), rB g5 86 ([.bool ((decTable xs).1), t12]), rR u8 5 r25 xs, rR u8 5 r46 xs, rR kE 70 t48 ((decTable xs).2), rB g9 86 ([.bool false, .slice none 0 0])] := Hold.newB H19 e51 b51 c51
    clear H19
    clear e51 b51 c51
    have b52 : B w51 g9 86 ([.bool false, .slice none 0 0]) := Hold.blk H20 9 rfl
    obtain ⟨_, R54⟩ : ∃ F, Kd.R kE w51 F t48 ((decTable xs).2) := Hold.row H20 8 rfl
    refine ef0 (xst (vs := [.bool ((decTable xs).1), t48]) ti86 rfl rfl rfl b52 rfl (Nat.le_of_ble_eq_true rfl) (oc rfl (oc (R54).oneCell on))) ?_
    rintro w53 ⟨-, b53, c53⟩
    have H21 : Hold w [] w53 [rR kE 70 t12 (marksE 1 ((decTable xs).2).length), rR u8 5 r10 (marks 1 xs.length), rR u8 5 r1 xs, rR kE 70 t3 ((decTable xs).2), rB g3 86 ([.bool ((decTable xs).1), t3]), rB g5 86 ([.bool ((decTable xs).1), t12]), rR u8 5 r25 xs, rR u8 5 r46 xs, rR kE 70 t48 ((decTable xs).2), rB g9 86 ([.bool ((decTable xs).1), t48])] := Hold.setB H20 9 rfl b53 c53 rfl
    clear H20
    clear b53 c53
    have b55 : B w53 g9 86 ([.bool ((decTable xs).1), t48]) := Hold.blk H21 9 rfl
    have b56 : B w53 g3 86 ([.bool ((decTable xs).1), t3]) := Hold.blk H21 4 rfl
    obtain ⟨_, R59⟩ : ∃ F, Kd.R kE w53 F t48 ((decTable xs).2) := Hold.row H21 8 rfl
    obtain ⟨_, R60⟩ : ∃ F, Kd.R kE w53 F t3 ((decTable xs).2) := Hold.row H21 3 rfl
    refine re (sq (sq (rg (r (lab [.bool ((decTable xs).1), t48] Try.underlying86 rfl ti86 rfl b55 rfl rfl) (r (lab [.bool ((decTable xs).1), t3] Try.underlying86 rfl ti86 z3 b56 rfl rfl) (cl go67 (eqTableResult R59 R60 (by first | assumption | omega | (simp; omega))) (ac rfl (ac rfl an)) ?_))))))
    rintro r wq57 ⟨rfl, cq57⟩
    have H22 : Hold w [] wq57 [rR kE 70 t12 (marksE 1 ((decTable xs).2).length), rR u8 5 r10 (marks 1 xs.length), rR u8 5 r1 xs, rR kE 70 t3 ((decTable xs).2), rB g3 86 ([.bool ((decTable xs).1), t3]), rB g5 86 ([.bool ((decTable xs).1), t12]), rR u8 5 r25 xs, rR u8 5 r46 xs, rR kE 70 t48 ((decTable xs).2), rB g9 86 ([.bool ((decTable xs).1), t48])] := Hold.t H21 cq57
    clear H21
    clear cq57
    refine r (nt rfl) (re ?_)
    refine cf ((rfl : _ = Value.bool (!(decide (((decTable xs).1, (decTable xs).2) = ((decTable xs).1, (decTable xs).2))))).trans (congrArg Value.bool (show (!(decide (((decTable xs).1, (decTable xs).2) = ((decTable xs).1, (decTable xs).2)))) = false from (by rw [decide_eq_true rfl]; rfl)))) ?_
    refine sk (sq ?_)
    refine gen (fun ρ => ρ 2 = .bool false ∧ True) ⟨z2, trivial⟩ ?_
    rintro ρ ⟨z2, -⟩
    refine rg (r (sa rfl) (re (rt ?_)))
    exact fin1 (v := .bool true) Try.results14 rfl ⟨rfl, Hold.ch H22⟩
end Go.Proofs.Ytgpcanjmgdmdhaa
