/-
  SEVERAL TEXTS OF MY OWN IN ONE: 78, 79, 80, 81. No condition.
-/
import Derived.Test.YtgpcanjmgdmdhaaDoorM2
import Derived.Test.YtgpcanjmgdmdhaaDoorM1
namespace Go.Proofs.YtgpcanjmgdmdhaaDoor
open Go Go.Eng
set_option maxRecDepth 100000
set_option maxHeartbeats 4000000
set_option linter.unusedVariables false
set_option linter.unusedSimpArgs false
section
variable (gs : List ByteArray)
theorem g00 (f : ByteArray) : gF (f :: gs) 0 = f := rfl
theorem g01 (f : ByteArray) : gF (f :: gs) 1 = gF gs 0 := by simp [gF]
theorem g02 (f : ByteArray) : gF (f :: gs) 2 = gF gs 1 := by simp [gF]
theorem dr1 (f : ByteArray) : (f :: gs).drop 1 = gs := rfl
theorem dr2 (f : ByteArray) : (f :: gs).drop 2 = gs.drop 1 := rfl
theorem ne0 {p : Prop} {a b : ByteArray} (h : ¬ a = b) : ¬ (p ∧ a = b) := fun g => h g.2
theorem len1 (f : ByteArray) : (f :: gs).length = gs.length + 1 := rfl
/-- No call's key. -/
theorem callV_key {f : ByteArray} (h : ¬ f = kWrite ∧ ¬ f = kRead ∧ ¬ f = kDel ∧ ¬ f = kList ∧ ¬ f = kSync ∧ ¬ f = kClean ∧ ¬ f = kStat ∧ ¬ f = kFill ∧ ¬ f = kTrunc) : callV (f :: gs) = badL := by
  obtain ⟨h1, h2, h3, h4, h5, h6, h7, h8, h9⟩ := h
  unfold callV
  rw [g00, if_neg (ne0 h1), if_neg (ne0 h2), if_neg (ne0 h3), if_neg (ne0 h4), if_neg (ne0 h5), if_neg (ne0 h6), if_neg (ne0 h7)]
  split
  · rfl
  · rw [if_neg (fun g => h8 g.2.2.1), if_neg (fun g => h9 g.2.2)]
/-- No other key. -/
theorem lineF_bad {f : ByteArray} (hc : callV (f :: gs) = badL) (h : ¬ f = kMount ∧ ¬ f = kArm ∧ ¬ f = kCrash ∧ ¬ f = kFlip) : lineF (f :: gs) = badL := by
  obtain ⟨h1, h2, h3, h4⟩ := h
  unfold lineF
  rw [hc, if_neg (show ¬ (badL.kind ≠ 0) from fun g => g rfl), g00, if_neg (ne0 h1)]
  by_cases h0 : numsOk ((f :: gs).drop 1) = false
  · rw [if_pos h0]
  · rw [if_neg h0, if_neg (show ¬ (f = kArm ∧ _) from fun g => h2 g.1), if_neg h3, if_neg (show ¬ (f = kFlip ∧ _) from fun g => h4 g.1)]
theorem lineF_call {fs : List ByteArray} {l : LineV} (hc : callV fs = l) (h : l.kind ≠ 0) : lineF fs = l := by
  unfold lineF; rw [hc, if_pos h]
theorem lf_other {f : ByteArray} (h : ¬ f = kWrite ∧ ¬ f = kRead ∧ ¬ f = kDel ∧ ¬ f = kList ∧ ¬ f = kSync ∧ ¬ f = kClean ∧ ¬ f = kStat ∧ ¬ f = kFill ∧ ¬ f = kTrunc) (h' : ¬ f = kMount ∧ ¬ f = kArm ∧ ¬ f = kCrash ∧ ¬ f = kFlip) : lineF (f :: gs) = badL := lineF_bad gs (callV_key gs h) h'
theorem lf_write : lineF (kWrite :: gs) = if gs.length = 2 then mkC 1 (gF gs 0) (dash (gF gs 1)) 0 else badL := by
  by_cases h : gs.length = 2
  · rw [if_pos h]
    exact lineF_call (by unfold callV; rw [g00, g01, g02, len1, if_pos ⟨by omega, rfl⟩]) (by show (1 : Int) ≠ 0; omega)
  · rw [if_neg h]
    refine lineF_bad gs ?_ ⟨by decide, by decide, by decide, by decide⟩
    unfold callV
    rw [g00, len1, if_neg (show ¬ (gs.length + 1 = 3 ∧ _) from fun g => h (by omega)), if_neg (ne0 (by decide)), if_neg (ne0 (by decide)), if_neg (ne0 (by decide)), if_neg (ne0 (by decide)), if_neg (ne0 (by decide)), if_neg (ne0 (by decide))]
    split
    · rfl
    · rw [if_neg (fun g => absurd g.2.2.1 (by decide)), if_neg (fun g => absurd g.2.2 (by decide))]
theorem lf_read : lineF (kRead :: gs) = if gs.length = 1 then mkC 2 (gF gs 0) bE 0 else badL := by
  by_cases h : gs.length = 1
  · rw [if_pos h]
    exact lineF_call (by unfold callV; rw [g00, g01, g02, len1, if_neg (ne0 (by decide)), if_pos ⟨by omega, rfl⟩]) (by show (1 : Int) ≠ 0; omega)
  · rw [if_neg h]
    refine lineF_bad gs ?_ ⟨by decide, by decide, by decide, by decide⟩
    unfold callV
    rw [g00, len1, if_neg (ne0 (by decide)), if_neg (show ¬ (gs.length + 1 = 2 ∧ _) from fun g => h (by omega)), if_neg (ne0 (by decide)), if_neg (ne0 (by decide)), if_neg (ne0 (by decide)), if_neg (ne0 (by decide)), if_neg (ne0 (by decide))]
    split
    · rfl
    · rw [if_neg (fun g => absurd g.2.2.1 (by decide)), if_neg (fun g => absurd g.2.2 (by decide))]
theorem lf_del : lineF (kDel :: gs) = if gs.length = 1 then mkC 4 (gF gs 0) bE 0 else badL := by
  by_cases h : gs.length = 1
  · rw [if_pos h]
    exact lineF_call (by unfold callV; rw [g00, g01, g02, len1, if_neg (ne0 (by decide)), if_neg (ne0 (by decide)), if_pos ⟨by omega, rfl⟩]) (by show (1 : Int) ≠ 0; omega)
  · rw [if_neg h]
    refine lineF_bad gs ?_ ⟨by decide, by decide, by decide, by decide⟩
    unfold callV
    rw [g00, len1, if_neg (ne0 (by decide)), if_neg (ne0 (by decide)), if_neg (show ¬ (gs.length + 1 = 2 ∧ _) from fun g => h (by omega)), if_neg (ne0 (by decide)), if_neg (ne0 (by decide)), if_neg (ne0 (by decide)), if_neg (ne0 (by decide))]
    split
    · rfl
    · rw [if_neg (fun g => absurd g.2.2.1 (by decide)), if_neg (fun g => absurd g.2.2 (by decide))]
theorem lf_list : lineF (kList :: gs) = if gs.length = 0 then mkC 5 bE bE 0 else badL := by
  by_cases h : gs.length = 0
  · rw [if_pos h]
    exact lineF_call (by unfold callV; rw [g00, g01, g02, len1, if_neg (ne0 (by decide)), if_neg (ne0 (by decide)), if_neg (ne0 (by decide)), if_pos ⟨by omega, rfl⟩]) (by show (1 : Int) ≠ 0; omega)
  · rw [if_neg h]
    refine lineF_bad gs ?_ ⟨by decide, by decide, by decide, by decide⟩
    unfold callV
    rw [g00, len1, if_neg (ne0 (by decide)), if_neg (ne0 (by decide)), if_neg (ne0 (by decide)), if_neg (show ¬ (gs.length + 1 = 1 ∧ _) from fun g => h (by omega)), if_neg (ne0 (by decide)), if_neg (ne0 (by decide)), if_neg (ne0 (by decide))]
    split
    · rfl
    · rw [if_neg (fun g => absurd g.2.2.1 (by decide)), if_neg (fun g => absurd g.2.2 (by decide))]
theorem lf_sync : lineF (kSync :: gs) = if gs.length = 0 then mkC 6 bE bE 0 else badL := by
  by_cases h : gs.length = 0
  · rw [if_pos h]
    exact lineF_call (by unfold callV; rw [g00, g01, g02, len1, if_neg (ne0 (by decide)), if_neg (ne0 (by decide)), if_neg (ne0 (by decide)), if_neg (ne0 (by decide)), if_pos ⟨by omega, rfl⟩]) (by show (1 : Int) ≠ 0; omega)
  · rw [if_neg h]
    refine lineF_bad gs ?_ ⟨by decide, by decide, by decide, by decide⟩
    unfold callV
    rw [g00, len1, if_neg (ne0 (by decide)), if_neg (ne0 (by decide)), if_neg (ne0 (by decide)), if_neg (ne0 (by decide)), if_neg (show ¬ (gs.length + 1 = 1 ∧ _) from fun g => h (by omega)), if_neg (ne0 (by decide)), if_neg (ne0 (by decide))]
    split
    · rfl
    · rw [if_neg (fun g => absurd g.2.2.1 (by decide)), if_neg (fun g => absurd g.2.2 (by decide))]
theorem lf_clean : lineF (kClean :: gs) = if gs.length = 0 then mkC 7 bE bE 0 else badL := by
  by_cases h : gs.length = 0
  · rw [if_pos h]
    exact lineF_call (by unfold callV; rw [g00, g01, g02, len1, if_neg (ne0 (by decide)), if_neg (ne0 (by decide)), if_neg (ne0 (by decide)), if_neg (ne0 (by decide)), if_neg (ne0 (by decide)), if_pos ⟨by omega, rfl⟩]) (by show (1 : Int) ≠ 0; omega)
  · rw [if_neg h]
    refine lineF_bad gs ?_ ⟨by decide, by decide, by decide, by decide⟩
    unfold callV
    rw [g00, len1, if_neg (ne0 (by decide)), if_neg (ne0 (by decide)), if_neg (ne0 (by decide)), if_neg (ne0 (by decide)), if_neg (ne0 (by decide)), if_neg (show ¬ (gs.length + 1 = 1 ∧ _) from fun g => h (by omega)), if_neg (ne0 (by decide))]
    split
    · rfl
    · rw [if_neg (fun g => absurd g.2.2.1 (by decide)), if_neg (fun g => absurd g.2.2 (by decide))]
theorem lf_stat : lineF (kStat :: gs) = if gs.length = 0 then mkC 8 bE bE 0 else badL := by
  by_cases h : gs.length = 0
  · rw [if_pos h]
    exact lineF_call (by unfold callV; rw [g00, g01, g02, len1, if_neg (ne0 (by decide)), if_neg (ne0 (by decide)), if_neg (ne0 (by decide)), if_neg (ne0 (by decide)), if_neg (ne0 (by decide)), if_neg (ne0 (by decide)), if_pos ⟨by omega, rfl⟩]) (by show (1 : Int) ≠ 0; omega)
  · rw [if_neg h]
    refine lineF_bad gs ?_ ⟨by decide, by decide, by decide, by decide⟩
    unfold callV
    rw [g00, len1, if_neg (ne0 (by decide)), if_neg (ne0 (by decide)), if_neg (ne0 (by decide)), if_neg (ne0 (by decide)), if_neg (ne0 (by decide)), if_neg (ne0 (by decide)), if_neg (show ¬ (gs.length + 1 = 1 ∧ _) from fun g => h (by omega))]
    split
    · rfl
    · rw [if_neg (fun g => absurd g.2.2.1 (by decide)), if_neg (fun g => absurd g.2.2 (by decide))]
theorem lf_fill : lineF (kFill :: gs) = if numsOk (gs.drop 1) = true ∧ gs.length = 3 ∧ (0 ≤ v0 (vals (gs.drop 1)) ∧ v0 (vals (gs.drop 1)) ≤ 2000) ∧ (0 ≤ v1 (vals (gs.drop 1)) ∧ v1 (vals (gs.drop 1)) ≤ 25) then mkC 1 (gF gs 0) (mkS (letL (v0 (vals (gs.drop 1))) (v1 (vals (gs.drop 1))))) 0 else badL := by
  by_cases h : numsOk (gs.drop 1) = true ∧ gs.length = 3 ∧ (0 ≤ v0 (vals (gs.drop 1)) ∧ v0 (vals (gs.drop 1)) ≤ 2000) ∧ (0 ≤ v1 (vals (gs.drop 1)) ∧ v1 (vals (gs.drop 1)) ≤ 25)
  · rw [if_pos h]
    exact lineF_call (by unfold callV; rw [g00, g01, len1, dr2, if_neg (ne0 (by decide)), if_neg (ne0 (by decide)), if_neg (ne0 (by decide)), if_neg (ne0 (by decide)), if_neg (ne0 (by decide)), if_neg (ne0 (by decide)), if_neg (ne0 (by decide)), if_neg (show ¬ gs.length + 1 < 3 by omega), if_pos ⟨h.1, by omega, rfl, h.2.2.1, h.2.2.2⟩]) (by show (1 : Int) ≠ 0; omega)
  · rw [if_neg h]
    refine lineF_bad gs ?_ ⟨by decide, by decide, by decide, by decide⟩
    unfold callV
    rw [g00, len1, dr2, if_neg (ne0 (by decide)), if_neg (ne0 (by decide)), if_neg (ne0 (by decide)), if_neg (ne0 (by decide)), if_neg (ne0 (by decide)), if_neg (ne0 (by decide)), if_neg (ne0 (by decide))]
    split
    · rfl
    · rw [if_neg (fun g => h ⟨g.1, by have := g.2.1; omega, g.2.2.2⟩), if_neg (fun g => absurd g.2.2 (by decide))]
theorem lf_trunc : lineF (kTrunc :: gs) = if numsOk (gs.drop 1) = true ∧ gs.length = 2 then mkC 3 (gF gs 0) bE (v0 (vals (gs.drop 1))) else badL := by
  by_cases h : numsOk (gs.drop 1) = true ∧ gs.length = 2
  · rw [if_pos h]
    exact lineF_call (by unfold callV; rw [g00, g01, len1, dr2, if_neg (ne0 (by decide)), if_neg (ne0 (by decide)), if_neg (ne0 (by decide)), if_neg (ne0 (by decide)), if_neg (ne0 (by decide)), if_neg (ne0 (by decide)), if_neg (ne0 (by decide)), if_neg (show ¬ gs.length + 1 < 3 by omega), if_neg (fun g => absurd g.2.2.1 (by decide)), if_pos ⟨h.1, by omega, rfl⟩]) (by show (1 : Int) ≠ 0; omega)
  · rw [if_neg h]
    refine lineF_bad gs ?_ ⟨by decide, by decide, by decide, by decide⟩
    unfold callV
    rw [g00, len1, dr2, if_neg (ne0 (by decide)), if_neg (ne0 (by decide)), if_neg (ne0 (by decide)), if_neg (ne0 (by decide)), if_neg (ne0 (by decide)), if_neg (ne0 (by decide)), if_neg (ne0 (by decide))]
    split
    · rfl
    · rw [if_neg (fun g => absurd g.2.2.1 (by decide)), if_neg (fun g => h ⟨g.1, by have := g.2.1; omega⟩)]
theorem lf_mount : lineF (kMount :: gs) = if gs.length = 0 then mkN 2 [] else badL := by
  unfold lineF
  rw [callV_key gs ⟨by decide, by decide, by decide, by decide, by decide, by decide, by decide, by decide, by decide⟩, if_neg (show ¬ (badL.kind ≠ 0) from fun g => g rfl), g00, dr1, len1]
  by_cases h : gs.length = 0
  · rw [if_pos h, if_pos ⟨by omega, rfl⟩]
  · rw [if_neg h, if_neg (fun g => h (by have := g.1; omega))]
    by_cases h0 : numsOk gs = false
    · rw [if_pos h0]
    · rw [if_neg h0, if_neg (show ¬ (kMount = kArm ∧ _) from fun g => absurd g.1 (by decide)), if_neg (show ¬ kMount = kCrash by decide), if_neg (show ¬ (kMount = kFlip ∧ _) from fun g => absurd g.1 (by decide))]
theorem lf_arm : lineF (kArm :: gs) = if numsOk gs = true ∧ 0 < gs.length ∧ (1 ≤ v0 (vals gs) ∧ v0 (vals gs) ≤ 100000) then mkN 3 (vals gs) else badL := by
  unfold lineF
  rw [callV_key gs ⟨by decide, by decide, by decide, by decide, by decide, by decide, by decide, by decide, by decide⟩, if_neg (show ¬ (badL.kind ≠ 0) from fun g => g rfl), g00, dr1, len1, if_neg (ne0 (by decide))]
  have hl : (vals gs).length = gs.length := List.length_map ..
  by_cases h0 : numsOk gs = false
  · rw [if_pos h0, if_neg (fun g => by rw [h0] at g; exact absurd g.1 (by simp))]
  · rw [if_neg h0]
    have h0' : numsOk gs = true := by simpa using h0
    by_cases h : 0 < gs.length ∧ (1 ≤ v0 (vals gs) ∧ v0 (vals gs) ≤ 100000)
    · rw [if_pos (show kArm = kArm ∧ _ from ⟨rfl, by omega, h.2⟩), if_pos ⟨h0', h⟩]
    · rw [if_neg (show ¬ (kArm = kArm ∧ 1 ≤ (vals gs).length ∧ (1 ≤ v0 (vals gs) ∧ v0 (vals gs) ≤ 100000)) from fun g => h ⟨by have := g.2.1; omega, g.2.2⟩), if_neg (show ¬ kArm = kCrash by decide), if_neg (show ¬ (kArm = kFlip ∧ _) from fun g => absurd g.1 (by decide)), if_neg (fun g => h g.2)]
theorem lf_crash : lineF (kCrash :: gs) = if numsOk gs = true then mkN 4 (vals gs) else badL := by
  unfold lineF
  rw [callV_key gs ⟨by decide, by decide, by decide, by decide, by decide, by decide, by decide, by decide, by decide⟩, if_neg (show ¬ (badL.kind ≠ 0) from fun g => g rfl), g00, dr1, len1, if_neg (ne0 (by decide))]
  by_cases h0 : numsOk gs = false
  · rw [if_pos h0, if_neg (by rw [h0]; simp)]
  · have h0' : numsOk gs = true := by simpa using h0
    rw [if_neg h0, if_neg (show ¬ (kCrash = kArm ∧ _) from fun g => absurd g.1 (by decide)), if_pos rfl, if_pos h0']
theorem lf_flip : lineF (kFlip :: gs) = if numsOk gs = true ∧ gs.length = 2 ∧ (0 ≤ v0 (vals gs) ∧ v0 (vals gs) ≤ 99999) ∧ (1 ≤ v1 (vals gs) ∧ v1 (vals gs) ≤ 255) then mkN 5 (vals gs) else badL := by
  unfold lineF
  rw [callV_key gs ⟨by decide, by decide, by decide, by decide, by decide, by decide, by decide, by decide, by decide⟩, if_neg (show ¬ (badL.kind ≠ 0) from fun g => g rfl), g00, dr1, len1, if_neg (ne0 (by decide))]
  have hl : (vals gs).length = gs.length := List.length_map ..
  by_cases h0 : numsOk gs = false
  · rw [if_pos h0, if_neg (fun g => by rw [h0] at g; exact absurd g.1 (by simp))]
  · rw [if_neg h0]
    have h0' : numsOk gs = true := by simpa using h0
    rw [if_neg (show ¬ (kFlip = kArm ∧ _) from fun g => absurd g.1 (by decide)), if_neg (show ¬ kFlip = kCrash by decide)]
    by_cases h : gs.length = 2 ∧ (0 ≤ v0 (vals gs) ∧ v0 (vals gs) ≤ 99999) ∧ (1 ≤ v1 (vals gs) ∧ v1 (vals gs) ≤ 255)
    · rw [if_pos (show kFlip = kFlip ∧ _ from ⟨rfl, by omega, h.2⟩), if_pos ⟨h0', h⟩]
    · rw [if_neg (show ¬ (kFlip = kFlip ∧ (vals gs).length = 2 ∧ _ ∧ _) from fun g => h ⟨by have := g.2.1; omega, g.2.2⟩), if_neg (fun g => h g.2)]
end
theorem numbers {w : World} {F : List Nat} {v : Value} {fs : List ByteArray} (hx : kStr.R w F v fs) (lx : fs.length ≤ 1000000) : Ret Tryd.prog 129 #[v] w (fun r w' => ∃ u xs, r = .tuple #[u, .bool (numsOk fs)] ∧ (numsOk fs = true → xs = vals fs) ∧ Hold w [] w' [rR i64 2 u xs]) := by
  refine enter Tryd.func129 rfl Tryd.ntmps129 (by rfl) (by rfl) ?_
  have H0 : Hold w [] w [] := Hold.start w
  refine sq (rg (r (sa rfl) (r (sa rfl) (re (sq (rg (r (sa rfl) (re (sq (sq (rg (r (mv rfl) (r (ln Tryd.underlying54 rfl ((hx.t (Hold.ch H0)))) (r (mv rfl) (re (bl ?_))))))))))))))))
  have H1 : Hold w [] w [rR i64 2 (.slice none 0 0) ([])] := Hold.nilrow i64 2 H0
  clear H0
  refine lp (α := Nat × Value) (fun (i, u) ρ w' => ρ 4 = u ∧ ρ 9 = v ∧ ρ 10 = .int .i64 (fs.length : Int) ∧ ρ 11 = .int .i64 (i : Int) ∧ Hold w [] w' [rR i64 2 u (vals (fs.take i))] ∧ i ≤ fs.length ∧ ∀ (j : Nat) (hj : j < fs.length), j < i → numOk fs[j] = true) (fun (i, u) => fs.length - i) (0, .slice none 0 0) ?_ ?_
  · exact ⟨rfl, rfl, rfl, rfl, H1, ⟨by omega, fun j _ h => absurd h (by omega)⟩⟩
  clear H1
  rintro ⟨i, u⟩ ρ w502 ⟨y4, y9, y10, y11, H2, hi, hg⟩
  refine sq (rg (r (bi y11 y10 rfl) (re (sq ?_))))
  refine cp rfl (fun h => ?_) (fun h => ?_)
  · have hi' : i < fs.length := by omega
    refine sk (sq (bl (sq (rg ?_))))
    obtain ⟨c13_1, ad13_1, k13_1, e13_1, p13_1⟩ := Kd.R.place hx i (by omega)
    refine r (ix (j := i) Tryd.underlying54 ti9 (y9.trans e13_1) y11 (by omega)) (r (ld Tryd.underlying9 rfl rfl (Ch.cell (Hold.ch H2) p13_1.cell)) (r (sa rfl) (re (sq (rg (r (mv rfl) (cl go126 (number0 (bs := []) (Kd.W.R (Kd.nil_W i64 2 _)) rfl) (ac rfl (ac rfl an)) ?_)))))))
    rintro r wr ⟨rfl, cr⟩
    have H3 : Hold w [] wr [rR i64 2 u (vals (fs.take i))] := Hold.t H2 cr
    clear H2
    clear cr
    refine r (mv rfl) (r (xt rfl rfl) (r (xt rfl rfl) (r (sa rfl) (r (sa rfl) (re (sq (sq ?_)))))))
    refine gen (fun ρ => ρ 4 = u ∧ ρ 7 = .int .i64 (if numOk fs[i] = true then numV fs[i] else 0) ∧ ρ 8 = .bool (numOk fs[i]) ∧ ρ 9 = v ∧ ρ 10 = .int .i64 (fs.length : Int) ∧ ρ 11 = .int .i64 (i : Int) ∧ True) ⟨y4, rfl, rfl, y9, y10, y11, trivial⟩ ?_
    rintro ρ ⟨z4, z7, z8, z9, z10, z11, -⟩
    refine rg (r (mv z8) (r (nt rfl) (re ?_)))
    refine cd rfl (fun h1 => ?_) (fun h1 => ?_)
    · refine sq (rg (r (sa rfl) (r (sa rfl) (re (rt ?_)))))
      have H4 : Hold w [] wr [rR i64 2 u (vals (fs.take i)), rR i64 2 (.slice none 0 0) ([])] := Hold.nilrow i64 2 H3
      clear H3
      have H5 : Hold w [] wr [rR i64 2 (.slice none 0 0) ([])] := (show Hold w [] wr ([rR i64 2 (.slice none 0 0) ([])] ++ [rR i64 2 u (vals (fs.take i))]) from Hold.re H4 [1, 0] (by kernel_rfl) (by rfl)).drop
      clear H4
      exact fin2 (v := .slice none 0 0) (v' := .bool false) Tryd.results129 rfl rfl ⟨_, _, (by rw [numsOk, allOk_no hi' (by simpa using h1)]; rfl), (fun g => by rw [numsOk, allOk_no hi' (by simpa using h1)] at g; cases g), H5⟩
    · have h1' : numOk fs[i] = true := by simpa using h1
      have hv : vals (fs.take (i + 1)) = vals (fs.take i) ++ [if numOk fs[i] = true then numV fs[i] else 0] := by unfold vals; rw [List.take_succ_eq_append_getElem hi', List.map_append, if_pos h1']; rfl
      refine sk (rg (r (mv z4) (r (mv z7) (ef (xbs1 (cs := [.int .i64 (if numOk fs[i] = true then numV fs[i] else 0)]) Tryd.underlying23 ti2 rfl rfl rfl (cel1 rfl) rfl) ?_))))
      rintro _ w3 ⟨g24, e3, rfl, -, b3, c3⟩
      have H4 : Hold w [] w3 [rR i64 2 u (vals (fs.take i)), rB g24 2 ([.int .i64 (if numOk fs[i] = true then numV fs[i] else 0)])] := Hold.newB H3 e3 b3 c3
      clear H3
      clear e3 b3 c3
      have b5 : B w3 g24 2 ([.int .i64 (if numOk fs[i] = true then numV fs[i] else 0)]) := Hold.blk H4 1 rfl
      obtain ⟨F6, P6, n6, s6, K6⟩ := Hold.pick H4 0 rfl
      replace P6 : Kd.W i64 2 w3 F6 u (vals (fs.take i)) := P6
      refine ef (xapb (ys := [if numOk fs[i] = true then numV fs[i] else 0]) Tryd.underlying23 ti2 rfl rfl rfl P6 b5 (els_one (R := Kd.O i64 _) (show Kd.O i64 _ [] (if numOk fs[i] = true then numV fs[i] else 0) _ from ⟨rfl, rfl⟩)) (nodup_nil n6) (by simp [vals]; omega)) ?_
      rintro v25_4 w4 ⟨F4, A4⟩
      have H5 : Hold w [] w4 [rR i64 2 v25_4 ((vals (fs.take i)) ++ [if numOk fs[i] = true then numV fs[i] else 0]), rB g24 2 ([.int .i64 (if numOk fs[i] = true then numV fs[i] else 0)])] := Hold.apd K6 P6 A4 rfl
      clear H4
      clear A4 K6 P6 n6 s6
      refine r (sa rfl) (re (be (rg (r (ad (a := (i : Int)) (b := 1) ((i : Int) + 1) z11 rfl (by omega)) (r (mv rfl) (re ?_))))))
      have H6 : Hold w [] w4 [rR i64 2 v25_4 ((vals (fs.take i)) ++ [if numOk fs[i] = true then numV fs[i] else 0])] := (show Hold w [] w4 ([rR i64 2 v25_4 ((vals (fs.take i)) ++ [if numOk fs[i] = true then numV fs[i] else 0])] ++ [rB g24 2 ([.int .i64 (if numOk fs[i] = true then numV fs[i] else 0)])]) from Hold.re H5 [0, 1] (by kernel_rfl) (by rfl)).drop
      clear H5
      exact ag (i + 1, v25_4) ⟨rfl, z9, z10, rfl, (by rw [hv]; exact H6), ⟨by omega, fun j hj hlt => by
  by_cases ej : j = i
  · subst ej; exact h1'
  · exact hg j hj (by omega)⟩⟩ (by first | omega | (dsimp only; omega))
  · have hall := allOk_yes (fun j hj _ => hg j hj (by omega))
    have ei : i = fs.length := by omega
    rw [ei, List.take_length] at H2
    have hvl : (vals fs).length = fs.length := List.length_map ..
    obtain ⟨_, R1⟩ : ∃ F, Kd.R i64 w502 F u (vals fs) := Hold.row H2 0 rfl
    refine ex rfl (sq (rg (r (mv y4) (r (mv y4) (r (ln Tryd.underlying23 rfl (R1)) (r (bi rfl rfl rfl) (r (sa rfl) (r (sa rfl) (re (rt ?_))))))))))
    exact fin2 (v := u) (v' := .bool (decide (((vals fs).length : Int) ≤ 400))) Tryd.results129 rfl rfl ⟨_, _, (by rw [show numsOk fs = decide (((vals fs).length : Int) ≤ 400) by rw [numsOk, hall, Bool.true_and]; exact decide_eq_decide.2 (by omega)]), fun _ => rfl, H2⟩
theorem parseMount {w : World} {F : List Nat} {v : Value} {gs : List ByteArray} (hx : kStr.R w F v gs) (lx : gs.length ≤ 1000000) : Ret Tryd.prog 111 #[v] w (fun r w' => ∃ l ok u, r = .tuple #[lineVal l u, .bool ok] ∧ (if ok = true then l else badL) = lineF (kMount :: gs) ∧ Hold w [] w' [rR i64 2 u l.ns]) := by
  refine enter Tryd.func111 rfl Tryd.ntmps111 (by rfl) (by rfl) ?_
  have H0 : Hold w [] w [] := Hold.start w
  refine sq (rg (ef (xal ti71) ?_))
  rintro _ w1 ⟨g2, e1, rfl, -, b1, c1⟩
  have H1 : Hold w [] w1 [rB g2 71 ([.int .i64 0, .int .i64 0, .string ⟨#[]⟩, .string ⟨#[]⟩, .int .i64 0, .slice none 0 0])] := Hold.newB H0 e1 b1 c1
  clear H0
  clear e1 b1 c1
  have b2 : B w1 g2 71 ([.int .i64 0, .int .i64 0, .string ⟨#[]⟩, .string ⟨#[]⟩, .int .i64 0, .slice none 0 0]) := Hold.blk H1 0 rfl
  refine r (sa rfl) (re (sq (rg (r (bd (r := [.int .i64 2, .int .i64 0, .string ⟨#[]⟩, .string ⟨#[]⟩, .int .i64 0, .slice none 0 0]) ti71 pl71 (pc rfl (cel1 rfl) pn) rfl) (r (mv rfl) (r (ln Tryd.underlying54 rfl ((hx.t (Hold.ch H1)))) (r (bi rfl rfl rfl) (ef0 (xst (vs := [.int .i64 2, .int .i64 0, .string ⟨#[]⟩, .string ⟨#[]⟩, .int .i64 0, .slice none 0 0]) ti71 rfl rfl rfl b2 rfl (Nat.le_of_ble_eq_true rfl) (one_all rfl)) ?_))))))))
  rintro w3 ⟨-, b3, c3⟩
  have H2 : Hold w [] w3 [rB g2 71 ([.int .i64 2, .int .i64 0, .string ⟨#[]⟩, .string ⟨#[]⟩, .int .i64 0, .slice none 0 0])] := Hold.setB H1 0 rfl b3 c3 rfl
  clear H1
  clear b3 c3
  refine r (sa rfl) (re (rt ?_))
  have H3 : Hold w [] w3 [rB g2 71 ([.int .i64 2, .int .i64 0, .string ⟨#[]⟩, .string ⟨#[]⟩, .int .i64 0, .slice none 0 0]), rR i64 2 (.slice none 0 0) ([])] := Hold.nilrow i64 2 H2
  clear H2
  have hw : (if (decide ((gs.length : Int) = 0)) = true then mkN 2 [] else badL) = lineF (kMount :: gs) := by
    rw [lf_mount]; by_cases h : gs.length = 0 <;> simp [h]
  have b4 : B w3 g2 71 ([.int .i64 2, .int .i64 0, .string ⟨#[]⟩, .string ⟨#[]⟩, .int .i64 0, .slice none 0 0]) := Hold.blk H3 0 rfl
  have H4 : Hold w [] w3 [rR i64 2 (.slice none 0 0) ([])] := (show Hold w [] w3 ([rR i64 2 (.slice none 0 0) ([])] ++ [rB g2 71 ([.int .i64 2, .int .i64 0, .string ⟨#[]⟩, .string ⟨#[]⟩, .int .i64 0, .slice none 0 0])]) from Hold.re H3 [1, 0] (by kernel_rfl) (by rfl)).drop
  clear H3
  exact finct (v' := .bool (decide ((gs.length : Int) = 0))) (cs := [.int .i64 2, .int .i64 0, .string ⟨#[]⟩, .string ⟨#[]⟩, .int .i64 0, .slice none 0 0]) Tryd.results111 Tryd.underlying71 rfl ti71 rfl b4 rfl rfl ⟨mkN 2 [], decide ((gs.length : Int) = 0), .slice none 0 0, rfl, hw, H4⟩
theorem parseCrash {w : World} {F : List Nat} {v : Value} {gs : List ByteArray} (hx : kStr.R w F v gs) (lx : gs.length ≤ 1000000) : Ret Tryd.prog 113 #[v] w (fun r w' => ∃ l ok u, r = .tuple #[lineVal l u, .bool ok] ∧ (if ok = true then l else badL) = lineF (kCrash :: gs) ∧ Hold w [] w' [rR i64 2 u l.ns]) := by
  refine enter Tryd.func113 rfl Tryd.ntmps113 (by rfl) (by rfl) ?_
  have H0 : Hold w [] w [] := Hold.start w
  refine sq (rg (ef (xal ti71) ?_))
  rintro _ w1 ⟨g2, e1, rfl, -, b1, c1⟩
  have H1 : Hold w [] w1 [rB g2 71 ([.int .i64 0, .int .i64 0, .string ⟨#[]⟩, .string ⟨#[]⟩, .int .i64 0, .slice none 0 0])] := Hold.newB H0 e1 b1 c1
  clear H0
  clear e1 b1 c1
  refine r (sa rfl) (re (sq (rg (r (mv rfl) (cl go129 (numbers (hx.t (Hold.ch H1)) lx) (ac rfl an) ?_)))))
  rintro r wn ⟨y, ys, rfl, hys, Hn⟩
  have hy1 : y.oneCell' = true := Kd.R.blocks_any (d := i64) (Hold.row Hn 0 rfl).choose_spec
  have H2 : Hold w [] wn [rB g2 71 ([.int .i64 0, .int .i64 0, .string ⟨#[]⟩, .string ⟨#[]⟩, .int .i64 0, .slice none 0 0]), rR i64 2 y ys] := Hold.news H1 Hn
  clear H1
  clear Hn
  obtain ⟨_, R3⟩ : ∃ F, Kd.R i64 wn F y ys := Hold.row H2 1 rfl
  have b4 : B wn g2 71 ([.int .i64 0, .int .i64 0, .string ⟨#[]⟩, .string ⟨#[]⟩, .int .i64 0, .slice none 0 0]) := Hold.blk H2 0 rfl
  refine r (mv rfl) (r (xt rfl rfl) (r (xt rfl rfl) (r (sa rfl) (r (sa rfl) (re (sq (rg (r (mv rfl) (r (bd (r := [.int .i64 4, .int .i64 0, .string ⟨#[]⟩, .string ⟨#[]⟩, .int .i64 0, y]) ti71 pl71 (pc rfl (cel1 rfl) (pc rfl (cel1 (R3).oneCell) pn)) rfl) (r (mv rfl) (ef0 (xst (vs := [.int .i64 4, .int .i64 0, .string ⟨#[]⟩, .string ⟨#[]⟩, .int .i64 0, y]) ti71 rfl rfl rfl b4 rfl (Nat.le_of_ble_eq_true rfl) (oc rfl (oc rfl (oc rfl (oc rfl (oc rfl (oc (R3).oneCell on))))))) ?_)))))))))))
  rintro w5 ⟨-, b5, c5⟩
  have H3 : Hold w [] w5 [rB g2 71 ([.int .i64 4, .int .i64 0, .string ⟨#[]⟩, .string ⟨#[]⟩, .int .i64 0, y]), rR i64 2 y ys] := Hold.setB H2 0 rfl b5 c5 rfl
  clear H2
  clear b5 c5
  refine r (sa rfl) (re (rt ?_))
  have hw : (if (numsOk gs) = true then mkN 4 ys else badL) = lineF (kCrash :: gs) := by
    rw [lf_crash]
    by_cases h : numsOk gs = true
    · rw [if_pos h, if_pos h, hys h]
    · rw [if_neg h, if_neg h]
  have b6 : B w5 g2 71 ([.int .i64 4, .int .i64 0, .string ⟨#[]⟩, .string ⟨#[]⟩, .int .i64 0, y]) := Hold.blk H3 0 rfl
  have H4 : Hold w [] w5 [rR i64 2 y ys] := (show Hold w [] w5 ([rR i64 2 y ys] ++ [rB g2 71 ([.int .i64 4, .int .i64 0, .string ⟨#[]⟩, .string ⟨#[]⟩, .int .i64 0, y])]) from Hold.re H3 [1, 0] (by kernel_rfl) (by rfl)).drop
  clear H3
  exact finct (v' := .bool (numsOk gs)) (cs := [.int .i64 4, .int .i64 0, .string ⟨#[]⟩, .string ⟨#[]⟩, .int .i64 0, y]) Tryd.results113 Tryd.underlying71 rfl ti71 rfl b6 rfl rfl ⟨mkN 4 ys, numsOk gs, y, rfl, hw, H4⟩
theorem parseArm {w : World} {F : List Nat} {v : Value} {gs : List ByteArray} (hx : kStr.R w F v gs) (lx : gs.length ≤ 1000000) : Ret Tryd.prog 112 #[v] w (fun r w' => ∃ l ok u, r = .tuple #[lineVal l u, .bool ok] ∧ (if ok = true then l else badL) = lineF (kArm :: gs) ∧ Hold w [] w' [rR i64 2 u l.ns]) := by
  refine enter Tryd.func112 rfl Tryd.ntmps112 (by rfl) (by rfl) ?_
  have H0 : Hold w [] w [] := Hold.start w
  refine sq (rg (ef (xal ti71) ?_))
  rintro _ w1 ⟨g2, e1, rfl, -, b1, c1⟩
  have H1 : Hold w [] w1 [rB g2 71 ([.int .i64 0, .int .i64 0, .string ⟨#[]⟩, .string ⟨#[]⟩, .int .i64 0, .slice none 0 0])] := Hold.newB H0 e1 b1 c1
  clear H0
  clear e1 b1 c1
  refine r (sa rfl) (re (sq (rg (r (mv rfl) (cl go129 (numbers (hx.t (Hold.ch H1)) lx) (ac rfl an) ?_)))))
  rintro r wn ⟨y, ys, rfl, hys, Hn⟩
  have hy1 : y.oneCell' = true := Kd.R.blocks_any (d := i64) (Hold.row Hn 0 rfl).choose_spec
  have H2 : Hold w [] wn [rB g2 71 ([.int .i64 0, .int .i64 0, .string ⟨#[]⟩, .string ⟨#[]⟩, .int .i64 0, .slice none 0 0]), rR i64 2 y ys] := Hold.news H1 Hn
  clear H1
  clear Hn
  refine r (mv rfl) (r (xt rfl rfl) (r (xt rfl rfl) (r (sa rfl) (r (sa rfl) (re (sq ?_))))))
  refine rde mixed ?_
  intro w3 c3
  have H3 : Hold w [] w3 [rB g2 71 ([.int .i64 0, .int .i64 0, .string ⟨#[]⟩, .string ⟨#[]⟩, .int .i64 0, .slice none 0 0]), rR i64 2 y ys] := Hold.t H2 c3
  clear H2
  clear c3
  obtain ⟨Fd4, hFd4, nd4, Kd4, Xd4, sd4⟩ := Hold.frontx (Γ := [rB g2 71 ([.int .i64 0, .int .i64 0, .string ⟨#[]⟩, .string ⟨#[]⟩, .int .i64 0, .slice none 0 0])]) (Δ := [rR i64 2 y ys]) H3
  have H4d0 : Hold w3 Fd4 w3 [rB g2 71 ([.int .i64 0, .int .i64 0, .string ⟨#[]⟩, .string ⟨#[]⟩, .int .i64 0, .slice none 0 0])] := Hold.begin hFd4 nd4
  refine ⟨fun w' => Ch Fd4 w3 w', Ch.refl _ _, ?_⟩
  refine edt 0 rfl (by kernel_rfl) (fun w' hS => mv rfl) (edt 1 rfl (by kernel_rfl) (fun w' hS => bd (r := [.int .i64 3, .int .i64 0, .string ⟨#[]⟩, .string ⟨#[]⟩, .int .i64 0, y]) ti71 pl71 (pc rfl (cel1 rfl) (pc rfl (cel1 hy1) pn)) rfl) (edt 2 rfl (by kernel_rfl) (fun w' hS => mv rfl) (edt 3 rfl (by kernel_rfl) (fun w' hS => mv rfl) ?_)))
  refine spbe 14 rfl (fun h1 => ?_) (fun h1 => ?_)
  · have hyv := hys h1
    have hyl : ys.length = gs.length := by rw [hyv]; exact List.length_map ..
    obtain ⟨_, R5, x5⟩ := Xd4 0 (rR i64 2 y ys) rfl
    replace R5 := Kd.W.R R5
    refine edty 4 rfl (by kernel_rfl) rfl rfl rfl (fun w' hS => mv rfl) (edty 5 rfl (by kernel_rfl) rfl rfl rfl (fun w' hS => ln Tryd.underlying23 rfl ((R5.tt hS x5))) (edty 6 rfl (by kernel_rfl) rfl rfl rfl (fun w' hS => bi rfl rfl rfl) (edt 7 rfl (by kernel_rfl) (fun w' hS => pk rfl rfl) (edt 8 rfl (by kernel_rfl) (fun w' hS => mv rfl) ?_))))
    refine spe 19 rfl (fun h2 => ?_) (fun h2 => ?_)
    · refine edty 9 rfl (by kernel_rfl) rfl rfl rfl (fun w' hS => mv rfl) ?_
      obtain ⟨c21_6, ad21_6, e21_6, p21_6⟩ := R_out R5 x5 0 ((by omega))
      refine edty 10 rfl (by kernel_rfl) rfl rfl rfl (fun w' hS => ix (j := 0) Tryd.underlying23 ti2 e21_6 rfl ((by omega))) (edty 11 rfl (by kernel_rfl) rfl rfl rfl (fun w' hS => Rn.cast (v' := .int .i64 (v0 (vals gs))) (ld Tryd.underlying2 rfl rfl (p21_6 _ hS)) (congrArg (Value.int .i64) ((gi0 _).trans (by rw [hyv])))) (edty 12 rfl (by kernel_rfl) rfl rfl rfl (fun w' hS => bi rfl rfl rfl) (edt 13 rfl (by kernel_rfl) (fun w' hS => pk rfl rfl) (edt 14 rfl (by kernel_rfl) (fun w' hS => mv rfl) ?_))))
      refine spe 25 rfl (fun h3 => ?_) (fun h3 => ?_)
      · refine edty 15 rfl (by kernel_rfl) rfl rfl rfl (fun w' hS => mv rfl) ?_
        obtain ⟨c27_7, ad27_7, e27_7, p27_7⟩ := R_out R5 x5 0 ((by omega))
        have b8 : B w3 g2 71 ([.int .i64 0, .int .i64 0, .string ⟨#[]⟩, .string ⟨#[]⟩, .int .i64 0, .slice none 0 0]) := Hold.blk H4d0 0 rfl
        refine edty 16 rfl (by kernel_rfl) rfl rfl rfl (fun w' hS => ix (j := 0) Tryd.underlying23 ti2 e27_7 rfl ((by omega))) (edty 17 rfl (by kernel_rfl) rfl rfl rfl (fun w' hS => Rn.cast (v' := .int .i64 (v0 (vals gs))) (ld Tryd.underlying2 rfl rfl (p27_7 _ hS)) (congrArg (Value.int .i64) ((gi0 _).trans (by rw [hyv])))) (edty 18 rfl (by kernel_rfl) rfl rfl rfl (fun w' hS => bi rfl rfl rfl) (edt 19 rfl (by kernel_rfl) (fun w' hS => pk rfl rfl) (ed1 20 (by kernel_rfl) <| euf0 rfl (xst (vs := [.int .i64 3, .int .i64 0, .string ⟨#[]⟩, .string ⟨#[]⟩, .int .i64 0, y]) ti71 rfl rfl rfl b8 rfl (Nat.le_of_ble_eq_true rfl) (oc rfl (oc rfl (oc rfl (oc rfl (oc rfl (oc hy1 on))))))) ?_))))
        rintro w9 ⟨-, b9, c9⟩
        have H4d : Hold w3 Fd4 w9 [rB g2 71 ([.int .i64 3, .int .i64 0, .string ⟨#[]⟩, .string ⟨#[]⟩, .int .i64 0, y])] := Hold.setB H4d0 0 rfl b9 c9 rfl
        clear H4d0
        clear b9 c9
        refine ⟨.inr (Hold.ch H4d), ?_⟩
        have H5 : Hold w [] w9 [rB g2 71 ([.int .i64 3, .int .i64 0, .string ⟨#[]⟩, .string ⟨#[]⟩, .int .i64 0, y]), rR i64 2 y ys] := Hold.call Kd4 H4d
        clear H4d H3
        refine ed1 21 (by kernel_rfl) <| eur rfl (sa rfl) (.inl (by kernel_rfl)) ?_
        refine edd (by kernel_rfl) ?_
        refine rt ?_
        have hw : (if (decide (v0 (vals gs) ≤ 100000)) = true then mkN 3 ys else badL) = lineF (kArm :: gs) := by
          rw [lf_arm, hyv]
          by_cases h : (v0 (vals gs)) ≤ 100000
          · rw [if_pos (by simpa using h), if_pos ⟨h1, by omega, by omega, h⟩]
          · rw [if_neg (by simpa using h), if_neg (fun g => h g.2.2.2)]
        have b10 : B w9 g2 71 ([.int .i64 3, .int .i64 0, .string ⟨#[]⟩, .string ⟨#[]⟩, .int .i64 0, y]) := Hold.blk H5 0 rfl
        have H6 : Hold w [] w9 [rR i64 2 y ys] := (show Hold w [] w9 ([rR i64 2 y ys] ++ [rB g2 71 ([.int .i64 3, .int .i64 0, .string ⟨#[]⟩, .string ⟨#[]⟩, .int .i64 0, y])]) from Hold.re H5 [1, 0] (by kernel_rfl) (by rfl)).drop
        clear H5
        exact finct (v' := .bool (decide ((v0 (vals gs)) ≤ 100000))) (cs := [.int .i64 3, .int .i64 0, .string ⟨#[]⟩, .string ⟨#[]⟩, .int .i64 0, y]) Tryd.results112 Tryd.underlying71 rfl ti71 rfl b10 rfl rfl ⟨mkN 3 ys, decide (v0 (vals gs) ≤ 100000), y, rfl, hw, H6⟩
      · have b7 : B w3 g2 71 ([.int .i64 0, .int .i64 0, .string ⟨#[]⟩, .string ⟨#[]⟩, .int .i64 0, .slice none 0 0]) := Hold.blk H4d0 0 rfl
        refine edtn 15 rfl (by kernel_rfl) rfl rfl rfl (edtn 16 rfl (by kernel_rfl) rfl rfl rfl (edtn 17 rfl (by kernel_rfl) rfl rfl rfl (edtn 18 rfl (by kernel_rfl) rfl rfl rfl (edt 19 rfl (by kernel_rfl) (fun w' hS => pk rfl rfl) (ed1 20 (by kernel_rfl) <| euf0 rfl (xst (vs := [.int .i64 3, .int .i64 0, .string ⟨#[]⟩, .string ⟨#[]⟩, .int .i64 0, y]) ti71 rfl rfl rfl b7 rfl (Nat.le_of_ble_eq_true rfl) (oc rfl (oc rfl (oc rfl (oc rfl (oc rfl (oc hy1 on))))))) ?_)))))
        rintro w8 ⟨-, b8, c8⟩
        have H4d : Hold w3 Fd4 w8 [rB g2 71 ([.int .i64 3, .int .i64 0, .string ⟨#[]⟩, .string ⟨#[]⟩, .int .i64 0, y])] := Hold.setB H4d0 0 rfl b8 c8 rfl
        clear H4d0
        clear b8 c8
        refine ⟨.inr (Hold.ch H4d), ?_⟩
        have H5 : Hold w [] w8 [rB g2 71 ([.int .i64 3, .int .i64 0, .string ⟨#[]⟩, .string ⟨#[]⟩, .int .i64 0, y]), rR i64 2 y ys] := Hold.call Kd4 H4d
        clear H4d H3
        refine ed1 21 (by kernel_rfl) <| eur rfl (sa rfl) (.inl (by kernel_rfl)) ?_
        refine edd (by kernel_rfl) ?_
        refine rt ?_
        have hw : (if (false) = true then mkN 3 ys else badL) = lineF (kArm :: gs) := by
          rw [lf_arm, if_neg (by simp), if_neg (fun g => by omega)]
        have b9 : B w8 g2 71 ([.int .i64 3, .int .i64 0, .string ⟨#[]⟩, .string ⟨#[]⟩, .int .i64 0, y]) := Hold.blk H5 0 rfl
        have H6 : Hold w [] w8 [rR i64 2 y ys] := (show Hold w [] w8 ([rR i64 2 y ys] ++ [rB g2 71 ([.int .i64 3, .int .i64 0, .string ⟨#[]⟩, .string ⟨#[]⟩, .int .i64 0, y])]) from Hold.re H5 [1, 0] (by kernel_rfl) (by rfl)).drop
        clear H5
        exact finct (v' := .bool false) (cs := [.int .i64 3, .int .i64 0, .string ⟨#[]⟩, .string ⟨#[]⟩, .int .i64 0, y]) Tryd.results112 Tryd.underlying71 rfl ti71 rfl b9 rfl rfl ⟨mkN 3 ys, false, y, rfl, hw, H6⟩
    · have b6 : B w3 g2 71 ([.int .i64 0, .int .i64 0, .string ⟨#[]⟩, .string ⟨#[]⟩, .int .i64 0, .slice none 0 0]) := Hold.blk H4d0 0 rfl
      refine edtn 9 rfl (by kernel_rfl) rfl rfl rfl (edtn 10 rfl (by kernel_rfl) rfl rfl rfl (edtn 11 rfl (by kernel_rfl) rfl rfl rfl (edtn 12 rfl (by kernel_rfl) rfl rfl rfl (edt 13 rfl (by kernel_rfl) (fun w' hS => pk rfl rfl) (edt 14 rfl (by kernel_rfl) (fun w' hS => mv rfl) (edtn 15 rfl (by kernel_rfl) rfl rfl rfl (edtn 16 rfl (by kernel_rfl) rfl rfl rfl (edtn 17 rfl (by kernel_rfl) rfl rfl rfl (edtn 18 rfl (by kernel_rfl) rfl rfl rfl (edt 19 rfl (by kernel_rfl) (fun w' hS => pk rfl rfl) (ed1 20 (by kernel_rfl) <| euf0 rfl (xst (vs := [.int .i64 3, .int .i64 0, .string ⟨#[]⟩, .string ⟨#[]⟩, .int .i64 0, y]) ti71 rfl rfl rfl b6 rfl (Nat.le_of_ble_eq_true rfl) (oc rfl (oc rfl (oc rfl (oc rfl (oc rfl (oc hy1 on))))))) ?_)))))))))))
      rintro w7 ⟨-, b7, c7⟩
      have H4d : Hold w3 Fd4 w7 [rB g2 71 ([.int .i64 3, .int .i64 0, .string ⟨#[]⟩, .string ⟨#[]⟩, .int .i64 0, y])] := Hold.setB H4d0 0 rfl b7 c7 rfl
      clear H4d0
      clear b7 c7
      refine ⟨.inr (Hold.ch H4d), ?_⟩
      have H5 : Hold w [] w7 [rB g2 71 ([.int .i64 3, .int .i64 0, .string ⟨#[]⟩, .string ⟨#[]⟩, .int .i64 0, y]), rR i64 2 y ys] := Hold.call Kd4 H4d
      clear H4d H3
      refine ed1 21 (by kernel_rfl) <| eur rfl (sa rfl) (.inl (by kernel_rfl)) ?_
      refine edd (by kernel_rfl) ?_
      refine rt ?_
      have hw : (if (false) = true then mkN 3 ys else badL) = lineF (kArm :: gs) := by
        rw [lf_arm, if_neg (by simp), if_neg (fun g => by omega)]
      have b8 : B w7 g2 71 ([.int .i64 3, .int .i64 0, .string ⟨#[]⟩, .string ⟨#[]⟩, .int .i64 0, y]) := Hold.blk H5 0 rfl
      have H6 : Hold w [] w7 [rR i64 2 y ys] := (show Hold w [] w7 ([rR i64 2 y ys] ++ [rB g2 71 ([.int .i64 3, .int .i64 0, .string ⟨#[]⟩, .string ⟨#[]⟩, .int .i64 0, y])]) from Hold.re H5 [1, 0] (by kernel_rfl) (by rfl)).drop
      clear H5
      exact finct (v' := .bool false) (cs := [.int .i64 3, .int .i64 0, .string ⟨#[]⟩, .string ⟨#[]⟩, .int .i64 0, y]) Tryd.results112 Tryd.underlying71 rfl ti71 rfl b8 rfl rfl ⟨mkN 3 ys, false, y, rfl, hw, H6⟩
  · have b5 : B w3 g2 71 ([.int .i64 0, .int .i64 0, .string ⟨#[]⟩, .string ⟨#[]⟩, .int .i64 0, .slice none 0 0]) := Hold.blk H4d0 0 rfl
    refine edtn 4 rfl (by kernel_rfl) rfl rfl rfl (edtn 5 rfl (by kernel_rfl) rfl rfl rfl (edtn 6 rfl (by kernel_rfl) rfl rfl rfl (edt 7 rfl (by kernel_rfl) (fun w' hS => pk rfl rfl) (edt 8 rfl (by kernel_rfl) (fun w' hS => mv rfl) (edtn 9 rfl (by kernel_rfl) rfl rfl rfl (edtn 10 rfl (by kernel_rfl) rfl rfl rfl (edtn 11 rfl (by kernel_rfl) rfl rfl rfl (edtn 12 rfl (by kernel_rfl) rfl rfl rfl (edt 13 rfl (by kernel_rfl) (fun w' hS => pk rfl rfl) (edt 14 rfl (by kernel_rfl) (fun w' hS => mv rfl) (edtn 15 rfl (by kernel_rfl) rfl rfl rfl (edtn 16 rfl (by kernel_rfl) rfl rfl rfl (edtn 17 rfl (by kernel_rfl) rfl rfl rfl (edtn 18 rfl (by kernel_rfl) rfl rfl rfl (edt 19 rfl (by kernel_rfl) (fun w' hS => pk rfl rfl) (ed1 20 (by kernel_rfl) <| euf0 rfl (xst (vs := [.int .i64 3, .int .i64 0, .string ⟨#[]⟩, .string ⟨#[]⟩, .int .i64 0, y]) ti71 rfl rfl rfl b5 rfl (Nat.le_of_ble_eq_true rfl) (oc rfl (oc rfl (oc rfl (oc rfl (oc rfl (oc hy1 on))))))) ?_))))))))))))))))
    rintro w6 ⟨-, b6, c6⟩
    have H4d : Hold w3 Fd4 w6 [rB g2 71 ([.int .i64 3, .int .i64 0, .string ⟨#[]⟩, .string ⟨#[]⟩, .int .i64 0, y])] := Hold.setB H4d0 0 rfl b6 c6 rfl
    clear H4d0
    clear b6 c6
    refine ⟨.inr (Hold.ch H4d), ?_⟩
    have H5 : Hold w [] w6 [rB g2 71 ([.int .i64 3, .int .i64 0, .string ⟨#[]⟩, .string ⟨#[]⟩, .int .i64 0, y]), rR i64 2 y ys] := Hold.call Kd4 H4d
    clear H4d H3
    refine ed1 21 (by kernel_rfl) <| eur rfl (sa rfl) (.inl (by kernel_rfl)) ?_
    refine edd (by kernel_rfl) ?_
    refine rt ?_
    have hw : (if (false) = true then mkN 3 ys else badL) = lineF (kArm :: gs) := by
      rw [lf_arm, if_neg (by simp), if_neg (fun g => by rw [h1] at g; exact absurd g.1 (by simp))]
    have b7 : B w6 g2 71 ([.int .i64 3, .int .i64 0, .string ⟨#[]⟩, .string ⟨#[]⟩, .int .i64 0, y]) := Hold.blk H5 0 rfl
    have H6 : Hold w [] w6 [rR i64 2 y ys] := (show Hold w [] w6 ([rR i64 2 y ys] ++ [rB g2 71 ([.int .i64 3, .int .i64 0, .string ⟨#[]⟩, .string ⟨#[]⟩, .int .i64 0, y])]) from Hold.re H5 [1, 0] (by kernel_rfl) (by rfl)).drop
    clear H5
    exact finct (v' := .bool false) (cs := [.int .i64 3, .int .i64 0, .string ⟨#[]⟩, .string ⟨#[]⟩, .int .i64 0, y]) Tryd.results112 Tryd.underlying71 rfl ti71 rfl b7 rfl rfl ⟨mkN 3 ys, false, y, rfl, hw, H6⟩
end Go.Proofs.YtgpcanjmgdmdhaaDoor

namespace Go.Proofs.YtgpcanjmgdmdhaaDoor
open Go Go.Eng
set_option maxRecDepth 100000
set_option maxHeartbeats 4000000
set_option linter.unusedVariables false
set_option linter.unusedSimpArgs false
theorem parseFlip {w : World} {F : List Nat} {v : Value} {gs : List ByteArray} (hx : kStr.R w F v gs) (lx : gs.length ≤ 1000000) : Ret Tryd.prog 114 #[v] w (fun r w' => ∃ l ok u, r = .tuple #[lineVal l u, .bool ok] ∧ (if ok = true then l else badL) = lineF (kFlip :: gs) ∧ Hold w [] w' [rR i64 2 u l.ns]) := by
  refine enter Tryd.func114 rfl Tryd.ntmps114 (by rfl) (by rfl) ?_
  have H0 : Hold w [] w [] := Hold.start w
  refine sq (rg (ef (xal ti71) ?_))
  rintro _ w1 ⟨g2, e1, rfl, -, b1, c1⟩
  have H1 : Hold w [] w1 [rB g2 71 ([.int .i64 0, .int .i64 0, .string ⟨#[]⟩, .string ⟨#[]⟩, .int .i64 0, .slice none 0 0])] := Hold.newB H0 e1 b1 c1
  clear H0
  clear e1 b1 c1
  refine r (sa rfl) (re (sq (rg (r (mv rfl) (cl go129 (numbers (hx.t (Hold.ch H1)) lx) (ac rfl an) ?_)))))
  rintro r wn ⟨y, ys, rfl, hys, Hn⟩
  have hy1 : y.oneCell' = true := Kd.R.blocks_any (d := i64) (Hold.row Hn 0 rfl).choose_spec
  have H2 : Hold w [] wn [rB g2 71 ([.int .i64 0, .int .i64 0, .string ⟨#[]⟩, .string ⟨#[]⟩, .int .i64 0, .slice none 0 0]), rR i64 2 y ys] := Hold.news H1 Hn
  clear H1
  clear Hn
  refine r (mv rfl) (r (xt rfl rfl) (r (xt rfl rfl) (r (sa rfl) (r (sa rfl) (re (sq ?_))))))
  refine rde mixed ?_
  intro w3 c3
  have H3 : Hold w [] w3 [rB g2 71 ([.int .i64 0, .int .i64 0, .string ⟨#[]⟩, .string ⟨#[]⟩, .int .i64 0, .slice none 0 0]), rR i64 2 y ys] := Hold.t H2 c3
  clear H2
  clear c3
  obtain ⟨Fd4, hFd4, nd4, Kd4, Xd4, sd4⟩ := Hold.frontx (Γ := [rB g2 71 ([.int .i64 0, .int .i64 0, .string ⟨#[]⟩, .string ⟨#[]⟩, .int .i64 0, .slice none 0 0])]) (Δ := [rR i64 2 y ys]) H3
  have H4d0 : Hold w3 Fd4 w3 [rB g2 71 ([.int .i64 0, .int .i64 0, .string ⟨#[]⟩, .string ⟨#[]⟩, .int .i64 0, .slice none 0 0])] := Hold.begin hFd4 nd4
  refine ⟨fun w' => Ch Fd4 w3 w', Ch.refl _ _, ?_⟩
  refine edt 0 rfl (by kernel_rfl) (fun w' hS => mv rfl) (edt 1 rfl (by kernel_rfl) (fun w' hS => bd (r := [.int .i64 5, .int .i64 0, .string ⟨#[]⟩, .string ⟨#[]⟩, .int .i64 0, y]) ti71 pl71 (pc rfl (cel1 rfl) (pc rfl (cel1 hy1) pn)) rfl) (edt 2 rfl (by kernel_rfl) (fun w' hS => Rn.cast (v' := .bool (numsOk gs)) (mv rfl) rfl) (edt 3 rfl (by kernel_rfl) (fun w' hS => Rn.cast (v' := .bool (numsOk gs)) (mv rfl) rfl) ?_)))
  refine spbe 14 rfl (fun h1 => ?_) (fun h1 => ?_)
  · have hyv := hys h1
    have hyl : ys.length = gs.length := by rw [hyv]; exact List.length_map ..
    obtain ⟨_, R5, x5⟩ := Xd4 0 (rR i64 2 y ys) rfl
    replace R5 := Kd.W.R R5
    refine edty 4 rfl (by kernel_rfl) rfl rfl rfl (fun w' hS => mv rfl) (edty 5 rfl (by kernel_rfl) rfl rfl rfl (fun w' hS => ln Tryd.underlying23 rfl ((R5.tt hS x5))) (edty 6 rfl (by kernel_rfl) rfl rfl rfl (fun w' hS => bi rfl rfl rfl) (edt 7 rfl (by kernel_rfl) (fun w' hS => Rn.cast (v' := .bool (decide ((ys.length : Int) = 2))) (pk rfl rfl) rfl) (edt 8 rfl (by kernel_rfl) (fun w' hS => Rn.cast (v' := .bool (decide ((ys.length : Int) = 2))) (mv rfl) rfl) ?_))))
    refine spe 19 rfl (fun h2 => ?_) (fun h2 => ?_)
    · refine edty 9 rfl (by kernel_rfl) rfl rfl rfl (fun w' hS => mv rfl) ?_
      obtain ⟨c21_6, ad21_6, e21_6, p21_6⟩ := R_out R5 x5 0 ((by omega))
      refine edty 10 rfl (by kernel_rfl) rfl rfl rfl (fun w' hS => ix (j := 0) Tryd.underlying23 ti2 e21_6 rfl ((by omega))) (edty 11 rfl (by kernel_rfl) rfl rfl rfl (fun w' hS => Rn.cast (v' := .int .i64 (v0 (vals gs))) (ld Tryd.underlying2 rfl rfl (p21_6 _ hS)) (congrArg (Value.int .i64) ((gi0 _).trans (by rw [hyv])))) (edty 12 rfl (by kernel_rfl) rfl rfl rfl (fun w' hS => bi rfl rfl rfl) (edt 13 rfl (by kernel_rfl) (fun w' hS => Rn.cast (v' := .bool (decide (0 ≤ (v0 (vals gs))))) (pk rfl rfl) rfl) (edt 14 rfl (by kernel_rfl) (fun w' hS => Rn.cast (v' := .bool (decide (0 ≤ (v0 (vals gs))))) (mv rfl) rfl) ?_))))
      refine spe 25 rfl (fun h3 => ?_) (fun h3 => ?_)
      · refine edty 15 rfl (by kernel_rfl) rfl rfl rfl (fun w' hS => mv rfl) ?_
        obtain ⟨c27_7, ad27_7, e27_7, p27_7⟩ := R_out R5 x5 0 ((by omega))
        refine edty 16 rfl (by kernel_rfl) rfl rfl rfl (fun w' hS => ix (j := 0) Tryd.underlying23 ti2 e27_7 rfl ((by omega))) (edty 17 rfl (by kernel_rfl) rfl rfl rfl (fun w' hS => Rn.cast (v' := .int .i64 (v0 (vals gs))) (ld Tryd.underlying2 rfl rfl (p27_7 _ hS)) (congrArg (Value.int .i64) ((gi0 _).trans (by rw [hyv])))) (edty 18 rfl (by kernel_rfl) rfl rfl rfl (fun w' hS => bi rfl rfl rfl) (edt 19 rfl (by kernel_rfl) (fun w' hS => Rn.cast (v' := .bool (decide ((v0 (vals gs)) ≤ 99999))) (pk rfl rfl) rfl) (edt 20 rfl (by kernel_rfl) (fun w' hS => Rn.cast (v' := .bool (decide ((v0 (vals gs)) ≤ 99999))) (mv rfl) rfl) ?_))))
        refine spe 31 rfl (fun h4 => ?_) (fun h4 => ?_)
        · refine edty 21 rfl (by kernel_rfl) rfl rfl rfl (fun w' hS => mv rfl) ?_
          obtain ⟨c33_8, ad33_8, e33_8, p33_8⟩ := R_out R5 x5 1 ((by omega))
          refine edty 22 rfl (by kernel_rfl) rfl rfl rfl (fun w' hS => ix (j := 1) Tryd.underlying23 ti2 e33_8 rfl ((by omega))) (edty 23 rfl (by kernel_rfl) rfl rfl rfl (fun w' hS => Rn.cast (v' := .int .i64 (v1 (vals gs))) (ld Tryd.underlying2 rfl rfl (p33_8 _ hS)) (congrArg (Value.int .i64) ((gi1 _).trans (by rw [hyv])))) (edty 24 rfl (by kernel_rfl) rfl rfl rfl (fun w' hS => bi rfl rfl rfl) (edt 25 rfl (by kernel_rfl) (fun w' hS => Rn.cast (v' := .bool (decide (1 ≤ (v1 (vals gs))))) (pk rfl rfl) rfl) (edt 26 rfl (by kernel_rfl) (fun w' hS => Rn.cast (v' := .bool (decide (1 ≤ (v1 (vals gs))))) (mv rfl) rfl) ?_))))
          refine spe 37 rfl (fun h5 => ?_) (fun h5 => ?_)
          · refine edty 27 rfl (by kernel_rfl) rfl rfl rfl (fun w' hS => mv rfl) ?_
            obtain ⟨c39_9, ad39_9, e39_9, p39_9⟩ := R_out R5 x5 1 ((by omega))
            have b10 : B w3 g2 71 ([.int .i64 0, .int .i64 0, .string ⟨#[]⟩, .string ⟨#[]⟩, .int .i64 0, .slice none 0 0]) := Hold.blk H4d0 0 rfl
            refine edty 28 rfl (by kernel_rfl) rfl rfl rfl (fun w' hS => ix (j := 1) Tryd.underlying23 ti2 e39_9 rfl ((by omega))) (edty 29 rfl (by kernel_rfl) rfl rfl rfl (fun w' hS => Rn.cast (v' := .int .i64 (v1 (vals gs))) (ld Tryd.underlying2 rfl rfl (p39_9 _ hS)) (congrArg (Value.int .i64) ((gi1 _).trans (by rw [hyv])))) (edty 30 rfl (by kernel_rfl) rfl rfl rfl (fun w' hS => bi rfl rfl rfl) (edt 31 rfl (by kernel_rfl) (fun w' hS => Rn.cast (v' := .bool (decide ((v1 (vals gs)) ≤ 255))) (pk rfl rfl) rfl) (ed1 32 (by kernel_rfl) <| euf0 rfl (xst (vs := [.int .i64 5, .int .i64 0, .string ⟨#[]⟩, .string ⟨#[]⟩, .int .i64 0, y]) ti71 rfl rfl rfl b10 rfl (Nat.le_of_ble_eq_true rfl) (oc rfl (oc rfl (oc rfl (oc rfl (oc rfl (oc hy1 on))))))) ?_))))
            rintro w11 ⟨-, b11, c11⟩
            have H4d : Hold w3 Fd4 w11 [rB g2 71 ([.int .i64 5, .int .i64 0, .string ⟨#[]⟩, .string ⟨#[]⟩, .int .i64 0, y])] := Hold.setB H4d0 0 rfl b11 c11 rfl
            clear H4d0
            clear b11 c11
            refine ⟨.inr (Hold.ch H4d), ?_⟩
            have H5 : Hold w [] w11 [rB g2 71 ([.int .i64 5, .int .i64 0, .string ⟨#[]⟩, .string ⟨#[]⟩, .int .i64 0, y]), rR i64 2 y ys] := Hold.call Kd4 H4d
            clear H4d H3
            refine ed1 33 (by kernel_rfl) <| eur rfl (sa rfl) (.inl (by kernel_rfl)) ?_
            refine edd (by kernel_rfl) ?_
            refine rt ?_
            have hw : (if (decide (v1 (vals gs) ≤ 255)) = true then mkN 5 ys else badL) = lineF (kFlip :: gs) := by
              rw [lf_flip, hyv]
              by_cases h : (v1 (vals gs)) ≤ 255
              · rw [if_pos (by simpa using h), if_pos ⟨h1, by omega, ⟨by omega, by omega⟩, by omega, h⟩]
              · rw [if_neg (by simpa using h), if_neg (fun g => h g.2.2.2.2)]
            have b12 : B w11 g2 71 ([.int .i64 5, .int .i64 0, .string ⟨#[]⟩, .string ⟨#[]⟩, .int .i64 0, y]) := Hold.blk H5 0 rfl
            have H6 : Hold w [] w11 [rR i64 2 y ys] := (show Hold w [] w11 ([rR i64 2 y ys] ++ [rB g2 71 ([.int .i64 5, .int .i64 0, .string ⟨#[]⟩, .string ⟨#[]⟩, .int .i64 0, y])]) from Hold.re H5 [1, 0] (by kernel_rfl) (by rfl)).drop
            clear H5
            exact finct (v' := .bool (decide ((v1 (vals gs)) ≤ 255))) (cs := [.int .i64 5, .int .i64 0, .string ⟨#[]⟩, .string ⟨#[]⟩, .int .i64 0, y]) Tryd.results114 Tryd.underlying71 rfl ti71 rfl b12 rfl rfl ⟨mkN 5 ys, decide (v1 (vals gs) ≤ 255), y, rfl, hw, H6⟩
          · have b9 : B w3 g2 71 ([.int .i64 0, .int .i64 0, .string ⟨#[]⟩, .string ⟨#[]⟩, .int .i64 0, .slice none 0 0]) := Hold.blk H4d0 0 rfl
            refine edtn 27 rfl (by kernel_rfl) rfl rfl rfl (edtn 28 rfl (by kernel_rfl) rfl rfl rfl (edtn 29 rfl (by kernel_rfl) rfl rfl rfl (edtn 30 rfl (by kernel_rfl) rfl rfl rfl (edt 31 rfl (by kernel_rfl) (fun w' hS => Rn.cast (v' := .bool false) (pk rfl rfl) rfl) (ed1 32 (by kernel_rfl) <| euf0 rfl (xst (vs := [.int .i64 5, .int .i64 0, .string ⟨#[]⟩, .string ⟨#[]⟩, .int .i64 0, y]) ti71 rfl rfl rfl b9 rfl (Nat.le_of_ble_eq_true rfl) (oc rfl (oc rfl (oc rfl (oc rfl (oc rfl (oc hy1 on))))))) ?_)))))
            rintro w10 ⟨-, b10, c10⟩
            have H4d : Hold w3 Fd4 w10 [rB g2 71 ([.int .i64 5, .int .i64 0, .string ⟨#[]⟩, .string ⟨#[]⟩, .int .i64 0, y])] := Hold.setB H4d0 0 rfl b10 c10 rfl
            clear H4d0
            clear b10 c10
            refine ⟨.inr (Hold.ch H4d), ?_⟩
            have H5 : Hold w [] w10 [rB g2 71 ([.int .i64 5, .int .i64 0, .string ⟨#[]⟩, .string ⟨#[]⟩, .int .i64 0, y]), rR i64 2 y ys] := Hold.call Kd4 H4d
            clear H4d H3
            refine ed1 33 (by kernel_rfl) <| eur rfl (sa rfl) (.inl (by kernel_rfl)) ?_
            refine edd (by kernel_rfl) ?_
            refine rt ?_
            have hw : (if (false) = true then mkN 5 ys else badL) = lineF (kFlip :: gs) := by
              rw [lf_flip, if_neg (by simp), if_neg (fun g => by omega)]
            have b11 : B w10 g2 71 ([.int .i64 5, .int .i64 0, .string ⟨#[]⟩, .string ⟨#[]⟩, .int .i64 0, y]) := Hold.blk H5 0 rfl
            have H6 : Hold w [] w10 [rR i64 2 y ys] := (show Hold w [] w10 ([rR i64 2 y ys] ++ [rB g2 71 ([.int .i64 5, .int .i64 0, .string ⟨#[]⟩, .string ⟨#[]⟩, .int .i64 0, y])]) from Hold.re H5 [1, 0] (by kernel_rfl) (by rfl)).drop
            clear H5
            exact finct (v' := .bool false) (cs := [.int .i64 5, .int .i64 0, .string ⟨#[]⟩, .string ⟨#[]⟩, .int .i64 0, y]) Tryd.results114 Tryd.underlying71 rfl ti71 rfl b11 rfl rfl ⟨mkN 5 ys, false, y, rfl, hw, H6⟩
        · have b8 : B w3 g2 71 ([.int .i64 0, .int .i64 0, .string ⟨#[]⟩, .string ⟨#[]⟩, .int .i64 0, .slice none 0 0]) := Hold.blk H4d0 0 rfl
          refine edtn 21 rfl (by kernel_rfl) rfl rfl rfl (edtn 22 rfl (by kernel_rfl) rfl rfl rfl (edtn 23 rfl (by kernel_rfl) rfl rfl rfl (edtn 24 rfl (by kernel_rfl) rfl rfl rfl (edt 25 rfl (by kernel_rfl) (fun w' hS => Rn.cast (v' := .bool false) (pk rfl rfl) rfl) (edt 26 rfl (by kernel_rfl) (fun w' hS => Rn.cast (v' := .bool false) (mv rfl) rfl) (edtn 27 rfl (by kernel_rfl) rfl rfl rfl (edtn 28 rfl (by kernel_rfl) rfl rfl rfl (edtn 29 rfl (by kernel_rfl) rfl rfl rfl (edtn 30 rfl (by kernel_rfl) rfl rfl rfl (edt 31 rfl (by kernel_rfl) (fun w' hS => Rn.cast (v' := .bool false) (pk rfl rfl) rfl) (ed1 32 (by kernel_rfl) <| euf0 rfl (xst (vs := [.int .i64 5, .int .i64 0, .string ⟨#[]⟩, .string ⟨#[]⟩, .int .i64 0, y]) ti71 rfl rfl rfl b8 rfl (Nat.le_of_ble_eq_true rfl) (oc rfl (oc rfl (oc rfl (oc rfl (oc rfl (oc hy1 on))))))) ?_)))))))))))
          rintro w9 ⟨-, b9, c9⟩
          have H4d : Hold w3 Fd4 w9 [rB g2 71 ([.int .i64 5, .int .i64 0, .string ⟨#[]⟩, .string ⟨#[]⟩, .int .i64 0, y])] := Hold.setB H4d0 0 rfl b9 c9 rfl
          clear H4d0
          clear b9 c9
          refine ⟨.inr (Hold.ch H4d), ?_⟩
          have H5 : Hold w [] w9 [rB g2 71 ([.int .i64 5, .int .i64 0, .string ⟨#[]⟩, .string ⟨#[]⟩, .int .i64 0, y]), rR i64 2 y ys] := Hold.call Kd4 H4d
          clear H4d H3
          refine ed1 33 (by kernel_rfl) <| eur rfl (sa rfl) (.inl (by kernel_rfl)) ?_
          refine edd (by kernel_rfl) ?_
          refine rt ?_
          have hw : (if (false) = true then mkN 5 ys else badL) = lineF (kFlip :: gs) := by
            rw [lf_flip, if_neg (by simp), if_neg (fun g => by omega)]
          have b10 : B w9 g2 71 ([.int .i64 5, .int .i64 0, .string ⟨#[]⟩, .string ⟨#[]⟩, .int .i64 0, y]) := Hold.blk H5 0 rfl
          have H6 : Hold w [] w9 [rR i64 2 y ys] := (show Hold w [] w9 ([rR i64 2 y ys] ++ [rB g2 71 ([.int .i64 5, .int .i64 0, .string ⟨#[]⟩, .string ⟨#[]⟩, .int .i64 0, y])]) from Hold.re H5 [1, 0] (by kernel_rfl) (by rfl)).drop
          clear H5
          exact finct (v' := .bool false) (cs := [.int .i64 5, .int .i64 0, .string ⟨#[]⟩, .string ⟨#[]⟩, .int .i64 0, y]) Tryd.results114 Tryd.underlying71 rfl ti71 rfl b10 rfl rfl ⟨mkN 5 ys, false, y, rfl, hw, H6⟩
      · have b7 : B w3 g2 71 ([.int .i64 0, .int .i64 0, .string ⟨#[]⟩, .string ⟨#[]⟩, .int .i64 0, .slice none 0 0]) := Hold.blk H4d0 0 rfl
        refine edtn 15 rfl (by kernel_rfl) rfl rfl rfl (edtn 16 rfl (by kernel_rfl) rfl rfl rfl (edtn 17 rfl (by kernel_rfl) rfl rfl rfl (edtn 18 rfl (by kernel_rfl) rfl rfl rfl (edt 19 rfl (by kernel_rfl) (fun w' hS => Rn.cast (v' := .bool false) (pk rfl rfl) rfl) (edt 20 rfl (by kernel_rfl) (fun w' hS => Rn.cast (v' := .bool false) (mv rfl) rfl) (edtn 21 rfl (by kernel_rfl) rfl rfl rfl (edtn 22 rfl (by kernel_rfl) rfl rfl rfl (edtn 23 rfl (by kernel_rfl) rfl rfl rfl (edtn 24 rfl (by kernel_rfl) rfl rfl rfl (edt 25 rfl (by kernel_rfl) (fun w' hS => Rn.cast (v' := .bool false) (pk rfl rfl) rfl) (edt 26 rfl (by kernel_rfl) (fun w' hS => Rn.cast (v' := .bool false) (mv rfl) rfl) (edtn 27 rfl (by kernel_rfl) rfl rfl rfl (edtn 28 rfl (by kernel_rfl) rfl rfl rfl (edtn 29 rfl (by kernel_rfl) rfl rfl rfl (edtn 30 rfl (by kernel_rfl) rfl rfl rfl (edt 31 rfl (by kernel_rfl) (fun w' hS => Rn.cast (v' := .bool false) (pk rfl rfl) rfl) (ed1 32 (by kernel_rfl) <| euf0 rfl (xst (vs := [.int .i64 5, .int .i64 0, .string ⟨#[]⟩, .string ⟨#[]⟩, .int .i64 0, y]) ti71 rfl rfl rfl b7 rfl (Nat.le_of_ble_eq_true rfl) (oc rfl (oc rfl (oc rfl (oc rfl (oc rfl (oc hy1 on))))))) ?_)))))))))))))))))
        rintro w8 ⟨-, b8, c8⟩
        have H4d : Hold w3 Fd4 w8 [rB g2 71 ([.int .i64 5, .int .i64 0, .string ⟨#[]⟩, .string ⟨#[]⟩, .int .i64 0, y])] := Hold.setB H4d0 0 rfl b8 c8 rfl
        clear H4d0
        clear b8 c8
        refine ⟨.inr (Hold.ch H4d), ?_⟩
        have H5 : Hold w [] w8 [rB g2 71 ([.int .i64 5, .int .i64 0, .string ⟨#[]⟩, .string ⟨#[]⟩, .int .i64 0, y]), rR i64 2 y ys] := Hold.call Kd4 H4d
        clear H4d H3
        refine ed1 33 (by kernel_rfl) <| eur rfl (sa rfl) (.inl (by kernel_rfl)) ?_
        refine edd (by kernel_rfl) ?_
        refine rt ?_
        have hw : (if (false) = true then mkN 5 ys else badL) = lineF (kFlip :: gs) := by
          rw [lf_flip, if_neg (by simp), if_neg (fun g => by omega)]
        have b9 : B w8 g2 71 ([.int .i64 5, .int .i64 0, .string ⟨#[]⟩, .string ⟨#[]⟩, .int .i64 0, y]) := Hold.blk H5 0 rfl
        have H6 : Hold w [] w8 [rR i64 2 y ys] := (show Hold w [] w8 ([rR i64 2 y ys] ++ [rB g2 71 ([.int .i64 5, .int .i64 0, .string ⟨#[]⟩, .string ⟨#[]⟩, .int .i64 0, y])]) from Hold.re H5 [1, 0] (by kernel_rfl) (by rfl)).drop
        clear H5
        exact finct (v' := .bool false) (cs := [.int .i64 5, .int .i64 0, .string ⟨#[]⟩, .string ⟨#[]⟩, .int .i64 0, y]) Tryd.results114 Tryd.underlying71 rfl ti71 rfl b9 rfl rfl ⟨mkN 5 ys, false, y, rfl, hw, H6⟩
    · have b6 : B w3 g2 71 ([.int .i64 0, .int .i64 0, .string ⟨#[]⟩, .string ⟨#[]⟩, .int .i64 0, .slice none 0 0]) := Hold.blk H4d0 0 rfl
      refine edtn 9 rfl (by kernel_rfl) rfl rfl rfl (edtn 10 rfl (by kernel_rfl) rfl rfl rfl (edtn 11 rfl (by kernel_rfl) rfl rfl rfl (edtn 12 rfl (by kernel_rfl) rfl rfl rfl (edt 13 rfl (by kernel_rfl) (fun w' hS => Rn.cast (v' := .bool false) (pk rfl rfl) rfl) (edt 14 rfl (by kernel_rfl) (fun w' hS => Rn.cast (v' := .bool false) (mv rfl) rfl) (edtn 15 rfl (by kernel_rfl) rfl rfl rfl (edtn 16 rfl (by kernel_rfl) rfl rfl rfl (edtn 17 rfl (by kernel_rfl) rfl rfl rfl (edtn 18 rfl (by kernel_rfl) rfl rfl rfl (edt 19 rfl (by kernel_rfl) (fun w' hS => Rn.cast (v' := .bool false) (pk rfl rfl) rfl) (edt 20 rfl (by kernel_rfl) (fun w' hS => Rn.cast (v' := .bool false) (mv rfl) rfl) (edtn 21 rfl (by kernel_rfl) rfl rfl rfl (edtn 22 rfl (by kernel_rfl) rfl rfl rfl (edtn 23 rfl (by kernel_rfl) rfl rfl rfl (edtn 24 rfl (by kernel_rfl) rfl rfl rfl (edt 25 rfl (by kernel_rfl) (fun w' hS => Rn.cast (v' := .bool false) (pk rfl rfl) rfl) (edt 26 rfl (by kernel_rfl) (fun w' hS => Rn.cast (v' := .bool false) (mv rfl) rfl) (edtn 27 rfl (by kernel_rfl) rfl rfl rfl (edtn 28 rfl (by kernel_rfl) rfl rfl rfl (edtn 29 rfl (by kernel_rfl) rfl rfl rfl (edtn 30 rfl (by kernel_rfl) rfl rfl rfl (edt 31 rfl (by kernel_rfl) (fun w' hS => Rn.cast (v' := .bool false) (pk rfl rfl) rfl) (ed1 32 (by kernel_rfl) <| euf0 rfl (xst (vs := [.int .i64 5, .int .i64 0, .string ⟨#[]⟩, .string ⟨#[]⟩, .int .i64 0, y]) ti71 rfl rfl rfl b6 rfl (Nat.le_of_ble_eq_true rfl) (oc rfl (oc rfl (oc rfl (oc rfl (oc rfl (oc hy1 on))))))) ?_)))))))))))))))))))))))
      rintro w7 ⟨-, b7, c7⟩
      have H4d : Hold w3 Fd4 w7 [rB g2 71 ([.int .i64 5, .int .i64 0, .string ⟨#[]⟩, .string ⟨#[]⟩, .int .i64 0, y])] := Hold.setB H4d0 0 rfl b7 c7 rfl
      clear H4d0
      clear b7 c7
      refine ⟨.inr (Hold.ch H4d), ?_⟩
      have H5 : Hold w [] w7 [rB g2 71 ([.int .i64 5, .int .i64 0, .string ⟨#[]⟩, .string ⟨#[]⟩, .int .i64 0, y]), rR i64 2 y ys] := Hold.call Kd4 H4d
      clear H4d H3
      refine ed1 33 (by kernel_rfl) <| eur rfl (sa rfl) (.inl (by kernel_rfl)) ?_
      refine edd (by kernel_rfl) ?_
      refine rt ?_
      have hw : (if (false) = true then mkN 5 ys else badL) = lineF (kFlip :: gs) := by
        rw [lf_flip, if_neg (by simp), if_neg (fun g => by omega)]
      have b8 : B w7 g2 71 ([.int .i64 5, .int .i64 0, .string ⟨#[]⟩, .string ⟨#[]⟩, .int .i64 0, y]) := Hold.blk H5 0 rfl
      have H6 : Hold w [] w7 [rR i64 2 y ys] := (show Hold w [] w7 ([rR i64 2 y ys] ++ [rB g2 71 ([.int .i64 5, .int .i64 0, .string ⟨#[]⟩, .string ⟨#[]⟩, .int .i64 0, y])]) from Hold.re H5 [1, 0] (by kernel_rfl) (by rfl)).drop
      clear H5
      exact finct (v' := .bool false) (cs := [.int .i64 5, .int .i64 0, .string ⟨#[]⟩, .string ⟨#[]⟩, .int .i64 0, y]) Tryd.results114 Tryd.underlying71 rfl ti71 rfl b8 rfl rfl ⟨mkN 5 ys, false, y, rfl, hw, H6⟩
  · have b5 : B w3 g2 71 ([.int .i64 0, .int .i64 0, .string ⟨#[]⟩, .string ⟨#[]⟩, .int .i64 0, .slice none 0 0]) := Hold.blk H4d0 0 rfl
    refine edtn 4 rfl (by kernel_rfl) rfl rfl rfl (edtn 5 rfl (by kernel_rfl) rfl rfl rfl (edtn 6 rfl (by kernel_rfl) rfl rfl rfl (edt 7 rfl (by kernel_rfl) (fun w' hS => Rn.cast (v' := .bool false) (pk rfl rfl) rfl) (edt 8 rfl (by kernel_rfl) (fun w' hS => Rn.cast (v' := .bool false) (mv rfl) rfl) (edtn 9 rfl (by kernel_rfl) rfl rfl rfl (edtn 10 rfl (by kernel_rfl) rfl rfl rfl (edtn 11 rfl (by kernel_rfl) rfl rfl rfl (edtn 12 rfl (by kernel_rfl) rfl rfl rfl (edt 13 rfl (by kernel_rfl) (fun w' hS => Rn.cast (v' := .bool false) (pk rfl rfl) rfl) (edt 14 rfl (by kernel_rfl) (fun w' hS => Rn.cast (v' := .bool false) (mv rfl) rfl) (edtn 15 rfl (by kernel_rfl) rfl rfl rfl (edtn 16 rfl (by kernel_rfl) rfl rfl rfl (edtn 17 rfl (by kernel_rfl) rfl rfl rfl (edtn 18 rfl (by kernel_rfl) rfl rfl rfl (edt 19 rfl (by kernel_rfl) (fun w' hS => Rn.cast (v' := .bool false) (pk rfl rfl) rfl) (edt 20 rfl (by kernel_rfl) (fun w' hS => Rn.cast (v' := .bool false) (mv rfl) rfl) (edtn 21 rfl (by kernel_rfl) rfl rfl rfl (edtn 22 rfl (by kernel_rfl) rfl rfl rfl (edtn 23 rfl (by kernel_rfl) rfl rfl rfl (edtn 24 rfl (by kernel_rfl) rfl rfl rfl (edt 25 rfl (by kernel_rfl) (fun w' hS => Rn.cast (v' := .bool false) (pk rfl rfl) rfl) (edt 26 rfl (by kernel_rfl) (fun w' hS => Rn.cast (v' := .bool false) (mv rfl) rfl) (edtn 27 rfl (by kernel_rfl) rfl rfl rfl (edtn 28 rfl (by kernel_rfl) rfl rfl rfl (edtn 29 rfl (by kernel_rfl) rfl rfl rfl (edtn 30 rfl (by kernel_rfl) rfl rfl rfl (edt 31 rfl (by kernel_rfl) (fun w' hS => Rn.cast (v' := .bool false) (pk rfl rfl) rfl) (ed1 32 (by kernel_rfl) <| euf0 rfl (xst (vs := [.int .i64 5, .int .i64 0, .string ⟨#[]⟩, .string ⟨#[]⟩, .int .i64 0, y]) ti71 rfl rfl rfl b5 rfl (Nat.le_of_ble_eq_true rfl) (oc rfl (oc rfl (oc rfl (oc rfl (oc rfl (oc hy1 on))))))) ?_))))))))))))))))))))))))))))
    rintro w6 ⟨-, b6, c6⟩
    have H4d : Hold w3 Fd4 w6 [rB g2 71 ([.int .i64 5, .int .i64 0, .string ⟨#[]⟩, .string ⟨#[]⟩, .int .i64 0, y])] := Hold.setB H4d0 0 rfl b6 c6 rfl
    clear H4d0
    clear b6 c6
    refine ⟨.inr (Hold.ch H4d), ?_⟩
    have H5 : Hold w [] w6 [rB g2 71 ([.int .i64 5, .int .i64 0, .string ⟨#[]⟩, .string ⟨#[]⟩, .int .i64 0, y]), rR i64 2 y ys] := Hold.call Kd4 H4d
    clear H4d H3
    refine ed1 33 (by kernel_rfl) <| eur rfl (sa rfl) (.inl (by kernel_rfl)) ?_
    refine edd (by kernel_rfl) ?_
    refine rt ?_
    have hw : (if (false) = true then mkN 5 ys else badL) = lineF (kFlip :: gs) := by
      rw [lf_flip, if_neg (by simp), if_neg (fun g => by rw [h1] at g; exact absurd g.1 (by simp))]
    have b7 : B w6 g2 71 ([.int .i64 5, .int .i64 0, .string ⟨#[]⟩, .string ⟨#[]⟩, .int .i64 0, y]) := Hold.blk H5 0 rfl
    have H6 : Hold w [] w6 [rR i64 2 y ys] := (show Hold w [] w6 ([rR i64 2 y ys] ++ [rB g2 71 ([.int .i64 5, .int .i64 0, .string ⟨#[]⟩, .string ⟨#[]⟩, .int .i64 0, y])]) from Hold.re H5 [1, 0] (by kernel_rfl) (by rfl)).drop
    clear H5
    exact finct (v' := .bool false) (cs := [.int .i64 5, .int .i64 0, .string ⟨#[]⟩, .string ⟨#[]⟩, .int .i64 0, y]) Tryd.results114 Tryd.underlying71 rfl ti71 rfl b7 rfl rfl ⟨mkN 5 ys, false, y, rfl, hw, H6⟩
theorem named_read {w : World} {F : List Nat} {v : Value} {gc : Nat} {gs : List ByteArray} (hB : B w gc 2 [.int .i64 2]) (hx : kStr.R w F v gs) (lx : gs.length ≤ 1000000) : Ret Tryd.prog 127 #[v, .pointer (some ⟨gc, 0, none⟩)] w (fun r w' => ∃ l ok u, r = .tuple #[lineVal l u, .bool ok] ∧ (if ok = true then l else badL) = lineF (kRead :: gs) ∧ Hold w [] w' [rR i64 2 u l.ns]) := by
  refine enter Tryd.func127 rfl Tryd.ntmps127 (by rfl) (by rfl) ?_
  have H0 : Hold w [] w [] := Hold.start w
  refine sq (rg (ef (xal ti71) ?_))
  rintro _ w1 ⟨g3, e1, rfl, -, b1, c1⟩
  have H1 : Hold w [] w1 [rB g3 71 ([.int .i64 0, .int .i64 0, .string ⟨#[]⟩, .string ⟨#[]⟩, .int .i64 0, .slice none 0 0])] := Hold.newB H0 e1 b1 c1
  clear H0
  clear e1 b1 c1
  refine r (sa rfl) (re (sq (sq (rg (r (mv rfl) (r (ln Tryd.underlying54 rfl ((hx.t (Hold.ch H1)))) (r (bi rfl rfl rfl) (re ?_))))))))
  refine cpn rfl (fun h => ?_) (fun h => ?_)
  · have b2 : B w1 g3 71 ([.int .i64 0, .int .i64 0, .string ⟨#[]⟩, .string ⟨#[]⟩, .int .i64 0, .slice none 0 0]) := Hold.blk H1 0 rfl
    refine sq (rg (r (bd (r := [.int .i64 0, .int .i64 0, .string ⟨#[]⟩, .string ⟨#[]⟩, .int .i64 0, .slice none 0 0]) ti71 pl71 pn rfl) (ef0 (xst (vs := [.int .i64 0, .int .i64 0, .string ⟨#[]⟩, .string ⟨#[]⟩, .int .i64 0, .slice none 0 0]) ti71 rfl rfl rfl b2 rfl (Nat.le_of_ble_eq_true rfl) (one_all rfl)) ?_)))
    rintro w3 ⟨-, b3, c3⟩
    have H2 : Hold w [] w3 [rB g3 71 ([.int .i64 0, .int .i64 0, .string ⟨#[]⟩, .string ⟨#[]⟩, .int .i64 0, .slice none 0 0])] := Hold.setB H1 0 rfl b3 c3 rfl
    clear H1
    clear b3 c3
    refine r (sa rfl) (re (rt ?_))
    have H3 : Hold w [] w3 [rB g3 71 ([.int .i64 0, .int .i64 0, .string ⟨#[]⟩, .string ⟨#[]⟩, .int .i64 0, .slice none 0 0]), rR i64 2 (.slice none 0 0) ([])] := Hold.nilrow i64 2 H2
    clear H2
    have hw : (if (false) = true then badL else badL) = lineF (kRead :: gs) := by
      rw [lf_read, if_neg (show ¬ gs.length = 1 by omega)]; rfl
    have b4 : B w3 g3 71 ([.int .i64 0, .int .i64 0, .string ⟨#[]⟩, .string ⟨#[]⟩, .int .i64 0, .slice none 0 0]) := Hold.blk H3 0 rfl
    have H4 : Hold w [] w3 [rR i64 2 (.slice none 0 0) ([])] := (show Hold w [] w3 ([rR i64 2 (.slice none 0 0) ([])] ++ [rB g3 71 ([.int .i64 0, .int .i64 0, .string ⟨#[]⟩, .string ⟨#[]⟩, .int .i64 0, .slice none 0 0])]) from Hold.re H3 [1, 0] (by kernel_rfl) (by rfl)).drop
    clear H3
    exact finct (v' := .bool false) (cs := [.int .i64 0, .int .i64 0, .string ⟨#[]⟩, .string ⟨#[]⟩, .int .i64 0, .slice none 0 0]) Tryd.results127 Tryd.underlying71 rfl ti71 rfl b4 rfl rfl ⟨badL, false, .slice none 0 0, rfl, hw, H4⟩
  · refine sk (sq ?_)
    refine rde mixed ?_
    intro w2 c2
    have H2 : Hold w [] w2 [rB g3 71 ([.int .i64 0, .int .i64 0, .string ⟨#[]⟩, .string ⟨#[]⟩, .int .i64 0, .slice none 0 0])] := Hold.t H1 c2
    clear H1
    clear c2
    obtain ⟨Fd3, hFd3, nd3, Kd3, Xd3, sd3⟩ := Hold.frontx (Γ := [rB g3 71 ([.int .i64 0, .int .i64 0, .string ⟨#[]⟩, .string ⟨#[]⟩, .int .i64 0, .slice none 0 0])]) (Δ := []) H2
    have H3d0 : Hold w2 Fd3 w2 [rB g3 71 ([.int .i64 0, .int .i64 0, .string ⟨#[]⟩, .string ⟨#[]⟩, .int .i64 0, .slice none 0 0])] := Hold.begin hFd3 nd3
    refine ⟨fun w' => Ch Fd3 w2 w', Ch.refl _ _, ?_⟩
    refine edt 0 rfl (by kernel_rfl) (fun w' hS => ldb Tryd.underlying2 rfl rfl (Ch.bN hS sd3 (Hold.ch H2) hB) rfl) (edt 1 rfl (by kernel_rfl) (fun w' hS => mv rfl) ?_)
    obtain ⟨c11_4, ad11_4, k11_4, e11_4, p11_4⟩ := Kd.R.place hx 0 ((by omega))
    refine edt 2 rfl (by kernel_rfl) (fun w' hS => ix (j := 0) Tryd.underlying54 ti9 e11_4 rfl ((by omega))) (edt 3 rfl (by kernel_rfl) (fun w' hS => Rn.cast (v' := .string (gF gs 0)) (ld Tryd.underlying9 rfl rfl (Ch.cellN hS sd3 (Hold.ch H2) p11_4.cell)) (congrArg Value.string (gd _))) (edt 4 rfl (by kernel_rfl) (fun w' hS => bd (r := [.int .i64 2, .string (gF gs 0), .string ⟨#[]⟩, .int .i64 0]) ti62 pl62 (pc rfl (cel1 rfl) (pc rfl (cel1 rfl) pn)) rfl) (ed1 5 (by kernel_rfl) <| euc rfl go125 (ac rfl an) (impl_call) ?_)))
    rintro r wm5 ⟨rfl, cm5⟩
    have H3d : Hold w2 Fd3 wm5 [rB g3 71 ([.int .i64 0, .int .i64 0, .string ⟨#[]⟩, .string ⟨#[]⟩, .int .i64 0, .slice none 0 0])] := Hold.t H3d0 cm5
    clear H3d0
    clear cm5
    refine ⟨.inr (Hold.ch H3d), ?_⟩
    have b7 : B wm5 g3 71 ([.int .i64 0, .int .i64 0, .string ⟨#[]⟩, .string ⟨#[]⟩, .int .i64 0, .slice none 0 0]) := Hold.blk H3d 0 rfl
    refine edt 6 rfl (by kernel_rfl) (fun w' hS => xt rfl rfl) (edt 7 rfl (by kernel_rfl) (fun w' hS => xt rfl rfl) (ed1 8 (by kernel_rfl) <| euf0 rfl (xst (vs := [.int .i64 1, .int .i64 2, .string (gF gs 0), .string ⟨#[]⟩, .int .i64 0, .slice none 0 0]) ti71 rfl rfl rfl b7 rfl (Nat.le_of_ble_eq_true rfl) (one_all rfl)) ?_))
    rintro w8 ⟨-, b8, c8⟩
    have H4d : Hold w2 Fd3 w8 [rB g3 71 ([.int .i64 1, .int .i64 2, .string (gF gs 0), .string ⟨#[]⟩, .int .i64 0, .slice none 0 0])] := Hold.setB H3d 0 rfl b8 c8 rfl
    clear H3d
    clear b8 c8
    refine ⟨.inr (Hold.ch H4d), ?_⟩
    have H5 : Hold w [] w8 [rB g3 71 ([.int .i64 1, .int .i64 2, .string (gF gs 0), .string ⟨#[]⟩, .int .i64 0, .slice none 0 0])] := Hold.call Kd3 H4d
    clear H4d H2
    refine ed1 9 (by kernel_rfl) <| eur rfl (sa rfl) (.inl (by kernel_rfl)) ?_
    refine edd (by kernel_rfl) ?_
    refine rt ?_
    have H6 : Hold w [] w8 [rB g3 71 ([.int .i64 1, .int .i64 2, .string (gF gs 0), .string ⟨#[]⟩, .int .i64 0, .slice none 0 0]), rR i64 2 (.slice none 0 0) ([])] := Hold.nilrow i64 2 H5
    clear H5
    have hw : (if (true) = true then mkC 2 (gF gs 0) bE 0 else badL) = lineF (kRead :: gs) := by
      rw [lf_read, if_pos (show gs.length = 1 by omega)]; rfl
    have b9 : B w8 g3 71 ([.int .i64 1, .int .i64 2, .string (gF gs 0), .string ⟨#[]⟩, .int .i64 0, .slice none 0 0]) := Hold.blk H6 0 rfl
    have H7 : Hold w [] w8 [rR i64 2 (.slice none 0 0) ([])] := (show Hold w [] w8 ([rR i64 2 (.slice none 0 0) ([])] ++ [rB g3 71 ([.int .i64 1, .int .i64 2, .string (gF gs 0), .string ⟨#[]⟩, .int .i64 0, .slice none 0 0])]) from Hold.re H6 [1, 0] (by kernel_rfl) (by rfl)).drop
    clear H6
    exact finct (v' := .bool true) (cs := [.int .i64 1, .int .i64 2, .string (gF gs 0), .string ⟨#[]⟩, .int .i64 0, .slice none 0 0]) Tryd.results127 Tryd.underlying71 rfl ti71 rfl b9 rfl rfl ⟨mkC 2 (gF gs 0) bE 0, true, .slice none 0 0, rfl, hw, H7⟩
theorem named_del {w : World} {F : List Nat} {v : Value} {gc : Nat} {gs : List ByteArray} (hB : B w gc 2 [.int .i64 4]) (hx : kStr.R w F v gs) (lx : gs.length ≤ 1000000) : Ret Tryd.prog 127 #[v, .pointer (some ⟨gc, 0, none⟩)] w (fun r w' => ∃ l ok u, r = .tuple #[lineVal l u, .bool ok] ∧ (if ok = true then l else badL) = lineF (kDel :: gs) ∧ Hold w [] w' [rR i64 2 u l.ns]) := by
  refine enter Tryd.func127 rfl Tryd.ntmps127 (by rfl) (by rfl) ?_
  have H0 : Hold w [] w [] := Hold.start w
  refine sq (rg (ef (xal ti71) ?_))
  rintro _ w1 ⟨g3, e1, rfl, -, b1, c1⟩
  have H1 : Hold w [] w1 [rB g3 71 ([.int .i64 0, .int .i64 0, .string ⟨#[]⟩, .string ⟨#[]⟩, .int .i64 0, .slice none 0 0])] := Hold.newB H0 e1 b1 c1
  clear H0
  clear e1 b1 c1
  refine r (sa rfl) (re (sq (sq (rg (r (mv rfl) (r (ln Tryd.underlying54 rfl ((hx.t (Hold.ch H1)))) (r (bi rfl rfl rfl) (re ?_))))))))
  refine cpn rfl (fun h => ?_) (fun h => ?_)
  · have b2 : B w1 g3 71 ([.int .i64 0, .int .i64 0, .string ⟨#[]⟩, .string ⟨#[]⟩, .int .i64 0, .slice none 0 0]) := Hold.blk H1 0 rfl
    refine sq (rg (r (bd (r := [.int .i64 0, .int .i64 0, .string ⟨#[]⟩, .string ⟨#[]⟩, .int .i64 0, .slice none 0 0]) ti71 pl71 pn rfl) (ef0 (xst (vs := [.int .i64 0, .int .i64 0, .string ⟨#[]⟩, .string ⟨#[]⟩, .int .i64 0, .slice none 0 0]) ti71 rfl rfl rfl b2 rfl (Nat.le_of_ble_eq_true rfl) (one_all rfl)) ?_)))
    rintro w3 ⟨-, b3, c3⟩
    have H2 : Hold w [] w3 [rB g3 71 ([.int .i64 0, .int .i64 0, .string ⟨#[]⟩, .string ⟨#[]⟩, .int .i64 0, .slice none 0 0])] := Hold.setB H1 0 rfl b3 c3 rfl
    clear H1
    clear b3 c3
    refine r (sa rfl) (re (rt ?_))
    have H3 : Hold w [] w3 [rB g3 71 ([.int .i64 0, .int .i64 0, .string ⟨#[]⟩, .string ⟨#[]⟩, .int .i64 0, .slice none 0 0]), rR i64 2 (.slice none 0 0) ([])] := Hold.nilrow i64 2 H2
    clear H2
    have hw : (if (false) = true then badL else badL) = lineF (kDel :: gs) := by
      rw [lf_del, if_neg (show ¬ gs.length = 1 by omega)]; rfl
    have b4 : B w3 g3 71 ([.int .i64 0, .int .i64 0, .string ⟨#[]⟩, .string ⟨#[]⟩, .int .i64 0, .slice none 0 0]) := Hold.blk H3 0 rfl
    have H4 : Hold w [] w3 [rR i64 2 (.slice none 0 0) ([])] := (show Hold w [] w3 ([rR i64 2 (.slice none 0 0) ([])] ++ [rB g3 71 ([.int .i64 0, .int .i64 0, .string ⟨#[]⟩, .string ⟨#[]⟩, .int .i64 0, .slice none 0 0])]) from Hold.re H3 [1, 0] (by kernel_rfl) (by rfl)).drop
    clear H3
    exact finct (v' := .bool false) (cs := [.int .i64 0, .int .i64 0, .string ⟨#[]⟩, .string ⟨#[]⟩, .int .i64 0, .slice none 0 0]) Tryd.results127 Tryd.underlying71 rfl ti71 rfl b4 rfl rfl ⟨badL, false, .slice none 0 0, rfl, hw, H4⟩
  · refine sk (sq ?_)
    refine rde mixed ?_
    intro w2 c2
    have H2 : Hold w [] w2 [rB g3 71 ([.int .i64 0, .int .i64 0, .string ⟨#[]⟩, .string ⟨#[]⟩, .int .i64 0, .slice none 0 0])] := Hold.t H1 c2
    clear H1
    clear c2
    obtain ⟨Fd3, hFd3, nd3, Kd3, Xd3, sd3⟩ := Hold.frontx (Γ := [rB g3 71 ([.int .i64 0, .int .i64 0, .string ⟨#[]⟩, .string ⟨#[]⟩, .int .i64 0, .slice none 0 0])]) (Δ := []) H2
    have H3d0 : Hold w2 Fd3 w2 [rB g3 71 ([.int .i64 0, .int .i64 0, .string ⟨#[]⟩, .string ⟨#[]⟩, .int .i64 0, .slice none 0 0])] := Hold.begin hFd3 nd3
    refine ⟨fun w' => Ch Fd3 w2 w', Ch.refl _ _, ?_⟩
    refine edt 0 rfl (by kernel_rfl) (fun w' hS => ldb Tryd.underlying2 rfl rfl (Ch.bN hS sd3 (Hold.ch H2) hB) rfl) (edt 1 rfl (by kernel_rfl) (fun w' hS => mv rfl) ?_)
    obtain ⟨c11_4, ad11_4, k11_4, e11_4, p11_4⟩ := Kd.R.place hx 0 ((by omega))
    refine edt 2 rfl (by kernel_rfl) (fun w' hS => ix (j := 0) Tryd.underlying54 ti9 e11_4 rfl ((by omega))) (edt 3 rfl (by kernel_rfl) (fun w' hS => Rn.cast (v' := .string (gF gs 0)) (ld Tryd.underlying9 rfl rfl (Ch.cellN hS sd3 (Hold.ch H2) p11_4.cell)) (congrArg Value.string (gd _))) (edt 4 rfl (by kernel_rfl) (fun w' hS => bd (r := [.int .i64 4, .string (gF gs 0), .string ⟨#[]⟩, .int .i64 0]) ti62 pl62 (pc rfl (cel1 rfl) (pc rfl (cel1 rfl) pn)) rfl) (ed1 5 (by kernel_rfl) <| euc rfl go125 (ac rfl an) (impl_call) ?_)))
    rintro r wm5 ⟨rfl, cm5⟩
    have H3d : Hold w2 Fd3 wm5 [rB g3 71 ([.int .i64 0, .int .i64 0, .string ⟨#[]⟩, .string ⟨#[]⟩, .int .i64 0, .slice none 0 0])] := Hold.t H3d0 cm5
    clear H3d0
    clear cm5
    refine ⟨.inr (Hold.ch H3d), ?_⟩
    have b7 : B wm5 g3 71 ([.int .i64 0, .int .i64 0, .string ⟨#[]⟩, .string ⟨#[]⟩, .int .i64 0, .slice none 0 0]) := Hold.blk H3d 0 rfl
    refine edt 6 rfl (by kernel_rfl) (fun w' hS => xt rfl rfl) (edt 7 rfl (by kernel_rfl) (fun w' hS => xt rfl rfl) (ed1 8 (by kernel_rfl) <| euf0 rfl (xst (vs := [.int .i64 1, .int .i64 4, .string (gF gs 0), .string ⟨#[]⟩, .int .i64 0, .slice none 0 0]) ti71 rfl rfl rfl b7 rfl (Nat.le_of_ble_eq_true rfl) (one_all rfl)) ?_))
    rintro w8 ⟨-, b8, c8⟩
    have H4d : Hold w2 Fd3 w8 [rB g3 71 ([.int .i64 1, .int .i64 4, .string (gF gs 0), .string ⟨#[]⟩, .int .i64 0, .slice none 0 0])] := Hold.setB H3d 0 rfl b8 c8 rfl
    clear H3d
    clear b8 c8
    refine ⟨.inr (Hold.ch H4d), ?_⟩
    have H5 : Hold w [] w8 [rB g3 71 ([.int .i64 1, .int .i64 4, .string (gF gs 0), .string ⟨#[]⟩, .int .i64 0, .slice none 0 0])] := Hold.call Kd3 H4d
    clear H4d H2
    refine ed1 9 (by kernel_rfl) <| eur rfl (sa rfl) (.inl (by kernel_rfl)) ?_
    refine edd (by kernel_rfl) ?_
    refine rt ?_
    have H6 : Hold w [] w8 [rB g3 71 ([.int .i64 1, .int .i64 4, .string (gF gs 0), .string ⟨#[]⟩, .int .i64 0, .slice none 0 0]), rR i64 2 (.slice none 0 0) ([])] := Hold.nilrow i64 2 H5
    clear H5
    have hw : (if (true) = true then mkC 4 (gF gs 0) bE 0 else badL) = lineF (kDel :: gs) := by
      rw [lf_del, if_pos (show gs.length = 1 by omega)]; rfl
    have b9 : B w8 g3 71 ([.int .i64 1, .int .i64 4, .string (gF gs 0), .string ⟨#[]⟩, .int .i64 0, .slice none 0 0]) := Hold.blk H6 0 rfl
    have H7 : Hold w [] w8 [rR i64 2 (.slice none 0 0) ([])] := (show Hold w [] w8 ([rR i64 2 (.slice none 0 0) ([])] ++ [rB g3 71 ([.int .i64 1, .int .i64 4, .string (gF gs 0), .string ⟨#[]⟩, .int .i64 0, .slice none 0 0])]) from Hold.re H6 [1, 0] (by kernel_rfl) (by rfl)).drop
    clear H6
    exact finct (v' := .bool true) (cs := [.int .i64 1, .int .i64 4, .string (gF gs 0), .string ⟨#[]⟩, .int .i64 0, .slice none 0 0]) Tryd.results127 Tryd.underlying71 rfl ti71 rfl b9 rfl rfl ⟨mkC 4 (gF gs 0) bE 0, true, .slice none 0 0, rfl, hw, H7⟩
theorem bare_list {w : World} {F : List Nat} {v : Value} {gc : Nat} {gs : List ByteArray} (hB : B w gc 2 [.int .i64 5]) (hx : kStr.R w F v gs) (lx : gs.length ≤ 1000000) : Ret Tryd.prog 128 #[v, .pointer (some ⟨gc, 0, none⟩)] w (fun r w' => ∃ l ok u, r = .tuple #[lineVal l u, .bool ok] ∧ (if ok = true then l else badL) = lineF (kList :: gs) ∧ Hold w [] w' [rR i64 2 u l.ns]) := by
  refine enter Tryd.func128 rfl Tryd.ntmps128 (by rfl) (by rfl) ?_
  have H0 : Hold w [] w [] := Hold.start w
  refine sq (rg (ef (xal ti71) ?_))
  rintro _ w1 ⟨g3, e1, rfl, -, b1, c1⟩
  have H1 : Hold w [] w1 [rB g3 71 ([.int .i64 0, .int .i64 0, .string ⟨#[]⟩, .string ⟨#[]⟩, .int .i64 0, .slice none 0 0])] := Hold.newB H0 e1 b1 c1
  clear H0
  clear e1 b1 c1
  refine r (sa rfl) (re (sq (rg (r (ldb Tryd.underlying2 rfl rfl ((Hold.ch H1).b0 hB) rfl) (r (bd (r := [.int .i64 5, .string ⟨#[]⟩, .string ⟨#[]⟩, .int .i64 0]) ti62 pl62 (pc rfl (cel1 rfl) pn) rfl) (cl go125 (impl_call) (ac rfl an) ?_))))))
  rintro r wm2 ⟨rfl, cm2⟩
  have H2 : Hold w [] wm2 [rB g3 71 ([.int .i64 0, .int .i64 0, .string ⟨#[]⟩, .string ⟨#[]⟩, .int .i64 0, .slice none 0 0])] := Hold.t H1 cm2
  clear H1
  clear cm2
  refine r (mv rfl) (r (xt rfl rfl) (r (xt rfl rfl) (ef (xal ti71) ?_)))
  rintro _ w4 ⟨g5, e4, rfl, -, b4, c4⟩
  have H3 : Hold w [] w4 [rB g3 71 ([.int .i64 0, .int .i64 0, .string ⟨#[]⟩, .string ⟨#[]⟩, .int .i64 0, .slice none 0 0]), rB g5 71 ([.int .i64 0, .int .i64 0, .string ⟨#[]⟩, .string ⟨#[]⟩, .int .i64 0, .slice none 0 0])] := Hold.newB H2 e4 b4 c4
  clear H2
  clear e4 b4 c4
  have b5 : B w4 g5 71 ([.int .i64 0, .int .i64 0, .string ⟨#[]⟩, .string ⟨#[]⟩, .int .i64 0, .slice none 0 0]) := Hold.blk H3 1 rfl
  refine ef0 (xst (vs := [.int .i64 1, .int .i64 5, .string ⟨#[]⟩, .string ⟨#[]⟩, .int .i64 0, .slice none 0 0]) ti71 rfl rfl rfl b5 rfl (Nat.le_of_ble_eq_true rfl) (one_all rfl)) ?_
  rintro w6 ⟨-, b6, c6⟩
  have H4 : Hold w [] w6 [rB g3 71 ([.int .i64 0, .int .i64 0, .string ⟨#[]⟩, .string ⟨#[]⟩, .int .i64 0, .slice none 0 0]), rB g5 71 ([.int .i64 1, .int .i64 5, .string ⟨#[]⟩, .string ⟨#[]⟩, .int .i64 0, .slice none 0 0])] := Hold.setB H3 1 rfl b6 c6 rfl
  clear H3
  clear b6 c6
  refine r (sa rfl) (re (sq ?_))
  refine gen (fun ρ => ρ 0 = v ∧ ρ 3 = .pointer (some ⟨g3, 0, none⟩) ∧ ρ 4 = .bool false ∧ ρ 5 = .pointer (some ⟨g5, 0, none⟩) ∧ True) ⟨rfl, rfl, rfl, rfl, trivial⟩ ?_
  rintro ρ ⟨z0, z3, z4, z5, -⟩
  have b7 : B w6 g5 71 ([.int .i64 1, .int .i64 5, .string ⟨#[]⟩, .string ⟨#[]⟩, .int .i64 0, .slice none 0 0]) := Hold.blk H4 1 rfl
  have b8 : B w6 g3 71 ([.int .i64 0, .int .i64 0, .string ⟨#[]⟩, .string ⟨#[]⟩, .int .i64 0, .slice none 0 0]) := Hold.blk H4 0 rfl
  refine rg (r (lab [.int .i64 1, .int .i64 5, .string ⟨#[]⟩, .string ⟨#[]⟩, .int .i64 0, .slice none 0 0] Tryd.underlying71 rfl ti71 z5 b7 rfl rfl) (r (mv z0) (r (ln Tryd.underlying54 rfl ((hx.t (Hold.ch H4)))) (r (bi rfl rfl rfl) (ef0 (xst (vs := [.int .i64 1, .int .i64 5, .string ⟨#[]⟩, .string ⟨#[]⟩, .int .i64 0, .slice none 0 0]) ti71 z3 rfl rfl b8 rfl (Nat.le_of_ble_eq_true rfl) (one_all rfl)) ?_)))))
  rintro w9 ⟨-, b9, c9⟩
  have H5 : Hold w [] w9 [rB g3 71 ([.int .i64 1, .int .i64 5, .string ⟨#[]⟩, .string ⟨#[]⟩, .int .i64 0, .slice none 0 0]), rB g5 71 ([.int .i64 1, .int .i64 5, .string ⟨#[]⟩, .string ⟨#[]⟩, .int .i64 0, .slice none 0 0])] := Hold.setB H4 0 rfl b9 c9 rfl
  clear H4
  clear b9 c9
  refine r (sa rfl) (re (rt ?_))
  have H6 : Hold w [] w9 [rB g3 71 ([.int .i64 1, .int .i64 5, .string ⟨#[]⟩, .string ⟨#[]⟩, .int .i64 0, .slice none 0 0]), rB g5 71 ([.int .i64 1, .int .i64 5, .string ⟨#[]⟩, .string ⟨#[]⟩, .int .i64 0, .slice none 0 0]), rR i64 2 (.slice none 0 0) ([])] := Hold.nilrow i64 2 H5
  clear H5
  have hw : (if (decide ((gs.length : Int) = 0)) = true then mkC 5 bE bE 0 else badL) = lineF (kList :: gs) := by
    rw [lf_list]; by_cases h : gs.length = 0 <;> simp [h]
  have b10 : B w9 g3 71 ([.int .i64 1, .int .i64 5, .string ⟨#[]⟩, .string ⟨#[]⟩, .int .i64 0, .slice none 0 0]) := Hold.blk H6 0 rfl
  have H7 : Hold w [] w9 [rR i64 2 (.slice none 0 0) ([])] := (show Hold w [] w9 ([rR i64 2 (.slice none 0 0) ([])] ++ [rB g3 71 ([.int .i64 1, .int .i64 5, .string ⟨#[]⟩, .string ⟨#[]⟩, .int .i64 0, .slice none 0 0]), rB g5 71 ([.int .i64 1, .int .i64 5, .string ⟨#[]⟩, .string ⟨#[]⟩, .int .i64 0, .slice none 0 0])]) from Hold.re H6 [2, 0, 1] (by kernel_rfl) (by rfl)).drop
  clear H6
  exact finct (v' := .bool (decide ((gs.length : Int) = 0))) (cs := [.int .i64 1, .int .i64 5, .string ⟨#[]⟩, .string ⟨#[]⟩, .int .i64 0, .slice none 0 0]) Tryd.results128 Tryd.underlying71 rfl ti71 z3 b10 rfl rfl ⟨mkC 5 bE bE 0, decide ((gs.length : Int) = 0), .slice none 0 0, rfl, hw, H7⟩
theorem bare_sync {w : World} {F : List Nat} {v : Value} {gc : Nat} {gs : List ByteArray} (hB : B w gc 2 [.int .i64 6]) (hx : kStr.R w F v gs) (lx : gs.length ≤ 1000000) : Ret Tryd.prog 128 #[v, .pointer (some ⟨gc, 0, none⟩)] w (fun r w' => ∃ l ok u, r = .tuple #[lineVal l u, .bool ok] ∧ (if ok = true then l else badL) = lineF (kSync :: gs) ∧ Hold w [] w' [rR i64 2 u l.ns]) := by
  refine enter Tryd.func128 rfl Tryd.ntmps128 (by rfl) (by rfl) ?_
  have H0 : Hold w [] w [] := Hold.start w
  refine sq (rg (ef (xal ti71) ?_))
  rintro _ w1 ⟨g3, e1, rfl, -, b1, c1⟩
  have H1 : Hold w [] w1 [rB g3 71 ([.int .i64 0, .int .i64 0, .string ⟨#[]⟩, .string ⟨#[]⟩, .int .i64 0, .slice none 0 0])] := Hold.newB H0 e1 b1 c1
  clear H0
  clear e1 b1 c1
  refine r (sa rfl) (re (sq (rg (r (ldb Tryd.underlying2 rfl rfl ((Hold.ch H1).b0 hB) rfl) (r (bd (r := [.int .i64 6, .string ⟨#[]⟩, .string ⟨#[]⟩, .int .i64 0]) ti62 pl62 (pc rfl (cel1 rfl) pn) rfl) (cl go125 (impl_call) (ac rfl an) ?_))))))
  rintro r wm2 ⟨rfl, cm2⟩
  have H2 : Hold w [] wm2 [rB g3 71 ([.int .i64 0, .int .i64 0, .string ⟨#[]⟩, .string ⟨#[]⟩, .int .i64 0, .slice none 0 0])] := Hold.t H1 cm2
  clear H1
  clear cm2
  refine r (mv rfl) (r (xt rfl rfl) (r (xt rfl rfl) (ef (xal ti71) ?_)))
  rintro _ w4 ⟨g5, e4, rfl, -, b4, c4⟩
  have H3 : Hold w [] w4 [rB g3 71 ([.int .i64 0, .int .i64 0, .string ⟨#[]⟩, .string ⟨#[]⟩, .int .i64 0, .slice none 0 0]), rB g5 71 ([.int .i64 0, .int .i64 0, .string ⟨#[]⟩, .string ⟨#[]⟩, .int .i64 0, .slice none 0 0])] := Hold.newB H2 e4 b4 c4
  clear H2
  clear e4 b4 c4
  have b5 : B w4 g5 71 ([.int .i64 0, .int .i64 0, .string ⟨#[]⟩, .string ⟨#[]⟩, .int .i64 0, .slice none 0 0]) := Hold.blk H3 1 rfl
  refine ef0 (xst (vs := [.int .i64 1, .int .i64 6, .string ⟨#[]⟩, .string ⟨#[]⟩, .int .i64 0, .slice none 0 0]) ti71 rfl rfl rfl b5 rfl (Nat.le_of_ble_eq_true rfl) (one_all rfl)) ?_
  rintro w6 ⟨-, b6, c6⟩
  have H4 : Hold w [] w6 [rB g3 71 ([.int .i64 0, .int .i64 0, .string ⟨#[]⟩, .string ⟨#[]⟩, .int .i64 0, .slice none 0 0]), rB g5 71 ([.int .i64 1, .int .i64 6, .string ⟨#[]⟩, .string ⟨#[]⟩, .int .i64 0, .slice none 0 0])] := Hold.setB H3 1 rfl b6 c6 rfl
  clear H3
  clear b6 c6
  refine r (sa rfl) (re (sq ?_))
  refine gen (fun ρ => ρ 0 = v ∧ ρ 3 = .pointer (some ⟨g3, 0, none⟩) ∧ ρ 4 = .bool false ∧ ρ 5 = .pointer (some ⟨g5, 0, none⟩) ∧ True) ⟨rfl, rfl, rfl, rfl, trivial⟩ ?_
  rintro ρ ⟨z0, z3, z4, z5, -⟩
  have b7 : B w6 g5 71 ([.int .i64 1, .int .i64 6, .string ⟨#[]⟩, .string ⟨#[]⟩, .int .i64 0, .slice none 0 0]) := Hold.blk H4 1 rfl
  have b8 : B w6 g3 71 ([.int .i64 0, .int .i64 0, .string ⟨#[]⟩, .string ⟨#[]⟩, .int .i64 0, .slice none 0 0]) := Hold.blk H4 0 rfl
  refine rg (r (lab [.int .i64 1, .int .i64 6, .string ⟨#[]⟩, .string ⟨#[]⟩, .int .i64 0, .slice none 0 0] Tryd.underlying71 rfl ti71 z5 b7 rfl rfl) (r (mv z0) (r (ln Tryd.underlying54 rfl ((hx.t (Hold.ch H4)))) (r (bi rfl rfl rfl) (ef0 (xst (vs := [.int .i64 1, .int .i64 6, .string ⟨#[]⟩, .string ⟨#[]⟩, .int .i64 0, .slice none 0 0]) ti71 z3 rfl rfl b8 rfl (Nat.le_of_ble_eq_true rfl) (one_all rfl)) ?_)))))
  rintro w9 ⟨-, b9, c9⟩
  have H5 : Hold w [] w9 [rB g3 71 ([.int .i64 1, .int .i64 6, .string ⟨#[]⟩, .string ⟨#[]⟩, .int .i64 0, .slice none 0 0]), rB g5 71 ([.int .i64 1, .int .i64 6, .string ⟨#[]⟩, .string ⟨#[]⟩, .int .i64 0, .slice none 0 0])] := Hold.setB H4 0 rfl b9 c9 rfl
  clear H4
  clear b9 c9
  refine r (sa rfl) (re (rt ?_))
  have H6 : Hold w [] w9 [rB g3 71 ([.int .i64 1, .int .i64 6, .string ⟨#[]⟩, .string ⟨#[]⟩, .int .i64 0, .slice none 0 0]), rB g5 71 ([.int .i64 1, .int .i64 6, .string ⟨#[]⟩, .string ⟨#[]⟩, .int .i64 0, .slice none 0 0]), rR i64 2 (.slice none 0 0) ([])] := Hold.nilrow i64 2 H5
  clear H5
  have hw : (if (decide ((gs.length : Int) = 0)) = true then mkC 6 bE bE 0 else badL) = lineF (kSync :: gs) := by
    rw [lf_sync]; by_cases h : gs.length = 0 <;> simp [h]
  have b10 : B w9 g3 71 ([.int .i64 1, .int .i64 6, .string ⟨#[]⟩, .string ⟨#[]⟩, .int .i64 0, .slice none 0 0]) := Hold.blk H6 0 rfl
  have H7 : Hold w [] w9 [rR i64 2 (.slice none 0 0) ([])] := (show Hold w [] w9 ([rR i64 2 (.slice none 0 0) ([])] ++ [rB g3 71 ([.int .i64 1, .int .i64 6, .string ⟨#[]⟩, .string ⟨#[]⟩, .int .i64 0, .slice none 0 0]), rB g5 71 ([.int .i64 1, .int .i64 6, .string ⟨#[]⟩, .string ⟨#[]⟩, .int .i64 0, .slice none 0 0])]) from Hold.re H6 [2, 0, 1] (by kernel_rfl) (by rfl)).drop
  clear H6
  exact finct (v' := .bool (decide ((gs.length : Int) = 0))) (cs := [.int .i64 1, .int .i64 6, .string ⟨#[]⟩, .string ⟨#[]⟩, .int .i64 0, .slice none 0 0]) Tryd.results128 Tryd.underlying71 rfl ti71 z3 b10 rfl rfl ⟨mkC 6 bE bE 0, decide ((gs.length : Int) = 0), .slice none 0 0, rfl, hw, H7⟩
theorem bare_clean {w : World} {F : List Nat} {v : Value} {gc : Nat} {gs : List ByteArray} (hB : B w gc 2 [.int .i64 7]) (hx : kStr.R w F v gs) (lx : gs.length ≤ 1000000) : Ret Tryd.prog 128 #[v, .pointer (some ⟨gc, 0, none⟩)] w (fun r w' => ∃ l ok u, r = .tuple #[lineVal l u, .bool ok] ∧ (if ok = true then l else badL) = lineF (kClean :: gs) ∧ Hold w [] w' [rR i64 2 u l.ns]) := by
  refine enter Tryd.func128 rfl Tryd.ntmps128 (by rfl) (by rfl) ?_
  have H0 : Hold w [] w [] := Hold.start w
  refine sq (rg (ef (xal ti71) ?_))
  rintro _ w1 ⟨g3, e1, rfl, -, b1, c1⟩
  have H1 : Hold w [] w1 [rB g3 71 ([.int .i64 0, .int .i64 0, .string ⟨#[]⟩, .string ⟨#[]⟩, .int .i64 0, .slice none 0 0])] := Hold.newB H0 e1 b1 c1
  clear H0
  clear e1 b1 c1
  refine r (sa rfl) (re (sq (rg (r (ldb Tryd.underlying2 rfl rfl ((Hold.ch H1).b0 hB) rfl) (r (bd (r := [.int .i64 7, .string ⟨#[]⟩, .string ⟨#[]⟩, .int .i64 0]) ti62 pl62 (pc rfl (cel1 rfl) pn) rfl) (cl go125 (impl_call) (ac rfl an) ?_))))))
  rintro r wm2 ⟨rfl, cm2⟩
  have H2 : Hold w [] wm2 [rB g3 71 ([.int .i64 0, .int .i64 0, .string ⟨#[]⟩, .string ⟨#[]⟩, .int .i64 0, .slice none 0 0])] := Hold.t H1 cm2
  clear H1
  clear cm2
  refine r (mv rfl) (r (xt rfl rfl) (r (xt rfl rfl) (ef (xal ti71) ?_)))
  rintro _ w4 ⟨g5, e4, rfl, -, b4, c4⟩
  have H3 : Hold w [] w4 [rB g3 71 ([.int .i64 0, .int .i64 0, .string ⟨#[]⟩, .string ⟨#[]⟩, .int .i64 0, .slice none 0 0]), rB g5 71 ([.int .i64 0, .int .i64 0, .string ⟨#[]⟩, .string ⟨#[]⟩, .int .i64 0, .slice none 0 0])] := Hold.newB H2 e4 b4 c4
  clear H2
  clear e4 b4 c4
  have b5 : B w4 g5 71 ([.int .i64 0, .int .i64 0, .string ⟨#[]⟩, .string ⟨#[]⟩, .int .i64 0, .slice none 0 0]) := Hold.blk H3 1 rfl
  refine ef0 (xst (vs := [.int .i64 1, .int .i64 7, .string ⟨#[]⟩, .string ⟨#[]⟩, .int .i64 0, .slice none 0 0]) ti71 rfl rfl rfl b5 rfl (Nat.le_of_ble_eq_true rfl) (one_all rfl)) ?_
  rintro w6 ⟨-, b6, c6⟩
  have H4 : Hold w [] w6 [rB g3 71 ([.int .i64 0, .int .i64 0, .string ⟨#[]⟩, .string ⟨#[]⟩, .int .i64 0, .slice none 0 0]), rB g5 71 ([.int .i64 1, .int .i64 7, .string ⟨#[]⟩, .string ⟨#[]⟩, .int .i64 0, .slice none 0 0])] := Hold.setB H3 1 rfl b6 c6 rfl
  clear H3
  clear b6 c6
  refine r (sa rfl) (re (sq ?_))
  refine gen (fun ρ => ρ 0 = v ∧ ρ 3 = .pointer (some ⟨g3, 0, none⟩) ∧ ρ 4 = .bool false ∧ ρ 5 = .pointer (some ⟨g5, 0, none⟩) ∧ True) ⟨rfl, rfl, rfl, rfl, trivial⟩ ?_
  rintro ρ ⟨z0, z3, z4, z5, -⟩
  have b7 : B w6 g5 71 ([.int .i64 1, .int .i64 7, .string ⟨#[]⟩, .string ⟨#[]⟩, .int .i64 0, .slice none 0 0]) := Hold.blk H4 1 rfl
  have b8 : B w6 g3 71 ([.int .i64 0, .int .i64 0, .string ⟨#[]⟩, .string ⟨#[]⟩, .int .i64 0, .slice none 0 0]) := Hold.blk H4 0 rfl
  refine rg (r (lab [.int .i64 1, .int .i64 7, .string ⟨#[]⟩, .string ⟨#[]⟩, .int .i64 0, .slice none 0 0] Tryd.underlying71 rfl ti71 z5 b7 rfl rfl) (r (mv z0) (r (ln Tryd.underlying54 rfl ((hx.t (Hold.ch H4)))) (r (bi rfl rfl rfl) (ef0 (xst (vs := [.int .i64 1, .int .i64 7, .string ⟨#[]⟩, .string ⟨#[]⟩, .int .i64 0, .slice none 0 0]) ti71 z3 rfl rfl b8 rfl (Nat.le_of_ble_eq_true rfl) (one_all rfl)) ?_)))))
  rintro w9 ⟨-, b9, c9⟩
  have H5 : Hold w [] w9 [rB g3 71 ([.int .i64 1, .int .i64 7, .string ⟨#[]⟩, .string ⟨#[]⟩, .int .i64 0, .slice none 0 0]), rB g5 71 ([.int .i64 1, .int .i64 7, .string ⟨#[]⟩, .string ⟨#[]⟩, .int .i64 0, .slice none 0 0])] := Hold.setB H4 0 rfl b9 c9 rfl
  clear H4
  clear b9 c9
  refine r (sa rfl) (re (rt ?_))
  have H6 : Hold w [] w9 [rB g3 71 ([.int .i64 1, .int .i64 7, .string ⟨#[]⟩, .string ⟨#[]⟩, .int .i64 0, .slice none 0 0]), rB g5 71 ([.int .i64 1, .int .i64 7, .string ⟨#[]⟩, .string ⟨#[]⟩, .int .i64 0, .slice none 0 0]), rR i64 2 (.slice none 0 0) ([])] := Hold.nilrow i64 2 H5
  clear H5
  have hw : (if (decide ((gs.length : Int) = 0)) = true then mkC 7 bE bE 0 else badL) = lineF (kClean :: gs) := by
    rw [lf_clean]; by_cases h : gs.length = 0 <;> simp [h]
  have b10 : B w9 g3 71 ([.int .i64 1, .int .i64 7, .string ⟨#[]⟩, .string ⟨#[]⟩, .int .i64 0, .slice none 0 0]) := Hold.blk H6 0 rfl
  have H7 : Hold w [] w9 [rR i64 2 (.slice none 0 0) ([])] := (show Hold w [] w9 ([rR i64 2 (.slice none 0 0) ([])] ++ [rB g3 71 ([.int .i64 1, .int .i64 7, .string ⟨#[]⟩, .string ⟨#[]⟩, .int .i64 0, .slice none 0 0]), rB g5 71 ([.int .i64 1, .int .i64 7, .string ⟨#[]⟩, .string ⟨#[]⟩, .int .i64 0, .slice none 0 0])]) from Hold.re H6 [2, 0, 1] (by kernel_rfl) (by rfl)).drop
  clear H6
  exact finct (v' := .bool (decide ((gs.length : Int) = 0))) (cs := [.int .i64 1, .int .i64 7, .string ⟨#[]⟩, .string ⟨#[]⟩, .int .i64 0, .slice none 0 0]) Tryd.results128 Tryd.underlying71 rfl ti71 z3 b10 rfl rfl ⟨mkC 7 bE bE 0, decide ((gs.length : Int) = 0), .slice none 0 0, rfl, hw, H7⟩
theorem bare_stat {w : World} {F : List Nat} {v : Value} {gc : Nat} {gs : List ByteArray} (hB : B w gc 2 [.int .i64 8]) (hx : kStr.R w F v gs) (lx : gs.length ≤ 1000000) : Ret Tryd.prog 128 #[v, .pointer (some ⟨gc, 0, none⟩)] w (fun r w' => ∃ l ok u, r = .tuple #[lineVal l u, .bool ok] ∧ (if ok = true then l else badL) = lineF (kStat :: gs) ∧ Hold w [] w' [rR i64 2 u l.ns]) := by
  refine enter Tryd.func128 rfl Tryd.ntmps128 (by rfl) (by rfl) ?_
  have H0 : Hold w [] w [] := Hold.start w
  refine sq (rg (ef (xal ti71) ?_))
  rintro _ w1 ⟨g3, e1, rfl, -, b1, c1⟩
  have H1 : Hold w [] w1 [rB g3 71 ([.int .i64 0, .int .i64 0, .string ⟨#[]⟩, .string ⟨#[]⟩, .int .i64 0, .slice none 0 0])] := Hold.newB H0 e1 b1 c1
  clear H0
  clear e1 b1 c1
  refine r (sa rfl) (re (sq (rg (r (ldb Tryd.underlying2 rfl rfl ((Hold.ch H1).b0 hB) rfl) (r (bd (r := [.int .i64 8, .string ⟨#[]⟩, .string ⟨#[]⟩, .int .i64 0]) ti62 pl62 (pc rfl (cel1 rfl) pn) rfl) (cl go125 (impl_call) (ac rfl an) ?_))))))
  rintro r wm2 ⟨rfl, cm2⟩
  have H2 : Hold w [] wm2 [rB g3 71 ([.int .i64 0, .int .i64 0, .string ⟨#[]⟩, .string ⟨#[]⟩, .int .i64 0, .slice none 0 0])] := Hold.t H1 cm2
  clear H1
  clear cm2
  refine r (mv rfl) (r (xt rfl rfl) (r (xt rfl rfl) (ef (xal ti71) ?_)))
  rintro _ w4 ⟨g5, e4, rfl, -, b4, c4⟩
  have H3 : Hold w [] w4 [rB g3 71 ([.int .i64 0, .int .i64 0, .string ⟨#[]⟩, .string ⟨#[]⟩, .int .i64 0, .slice none 0 0]), rB g5 71 ([.int .i64 0, .int .i64 0, .string ⟨#[]⟩, .string ⟨#[]⟩, .int .i64 0, .slice none 0 0])] := Hold.newB H2 e4 b4 c4
  clear H2
  clear e4 b4 c4
  have b5 : B w4 g5 71 ([.int .i64 0, .int .i64 0, .string ⟨#[]⟩, .string ⟨#[]⟩, .int .i64 0, .slice none 0 0]) := Hold.blk H3 1 rfl
  refine ef0 (xst (vs := [.int .i64 1, .int .i64 8, .string ⟨#[]⟩, .string ⟨#[]⟩, .int .i64 0, .slice none 0 0]) ti71 rfl rfl rfl b5 rfl (Nat.le_of_ble_eq_true rfl) (one_all rfl)) ?_
  rintro w6 ⟨-, b6, c6⟩
  have H4 : Hold w [] w6 [rB g3 71 ([.int .i64 0, .int .i64 0, .string ⟨#[]⟩, .string ⟨#[]⟩, .int .i64 0, .slice none 0 0]), rB g5 71 ([.int .i64 1, .int .i64 8, .string ⟨#[]⟩, .string ⟨#[]⟩, .int .i64 0, .slice none 0 0])] := Hold.setB H3 1 rfl b6 c6 rfl
  clear H3
  clear b6 c6
  refine r (sa rfl) (re (sq ?_))
  refine gen (fun ρ => ρ 0 = v ∧ ρ 3 = .pointer (some ⟨g3, 0, none⟩) ∧ ρ 4 = .bool false ∧ ρ 5 = .pointer (some ⟨g5, 0, none⟩) ∧ True) ⟨rfl, rfl, rfl, rfl, trivial⟩ ?_
  rintro ρ ⟨z0, z3, z4, z5, -⟩
  have b7 : B w6 g5 71 ([.int .i64 1, .int .i64 8, .string ⟨#[]⟩, .string ⟨#[]⟩, .int .i64 0, .slice none 0 0]) := Hold.blk H4 1 rfl
  have b8 : B w6 g3 71 ([.int .i64 0, .int .i64 0, .string ⟨#[]⟩, .string ⟨#[]⟩, .int .i64 0, .slice none 0 0]) := Hold.blk H4 0 rfl
  refine rg (r (lab [.int .i64 1, .int .i64 8, .string ⟨#[]⟩, .string ⟨#[]⟩, .int .i64 0, .slice none 0 0] Tryd.underlying71 rfl ti71 z5 b7 rfl rfl) (r (mv z0) (r (ln Tryd.underlying54 rfl ((hx.t (Hold.ch H4)))) (r (bi rfl rfl rfl) (ef0 (xst (vs := [.int .i64 1, .int .i64 8, .string ⟨#[]⟩, .string ⟨#[]⟩, .int .i64 0, .slice none 0 0]) ti71 z3 rfl rfl b8 rfl (Nat.le_of_ble_eq_true rfl) (one_all rfl)) ?_)))))
  rintro w9 ⟨-, b9, c9⟩
  have H5 : Hold w [] w9 [rB g3 71 ([.int .i64 1, .int .i64 8, .string ⟨#[]⟩, .string ⟨#[]⟩, .int .i64 0, .slice none 0 0]), rB g5 71 ([.int .i64 1, .int .i64 8, .string ⟨#[]⟩, .string ⟨#[]⟩, .int .i64 0, .slice none 0 0])] := Hold.setB H4 0 rfl b9 c9 rfl
  clear H4
  clear b9 c9
  refine r (sa rfl) (re (rt ?_))
  have H6 : Hold w [] w9 [rB g3 71 ([.int .i64 1, .int .i64 8, .string ⟨#[]⟩, .string ⟨#[]⟩, .int .i64 0, .slice none 0 0]), rB g5 71 ([.int .i64 1, .int .i64 8, .string ⟨#[]⟩, .string ⟨#[]⟩, .int .i64 0, .slice none 0 0]), rR i64 2 (.slice none 0 0) ([])] := Hold.nilrow i64 2 H5
  clear H5
  have hw : (if (decide ((gs.length : Int) = 0)) = true then mkC 8 bE bE 0 else badL) = lineF (kStat :: gs) := by
    rw [lf_stat]; by_cases h : gs.length = 0 <;> simp [h]
  have b10 : B w9 g3 71 ([.int .i64 1, .int .i64 8, .string ⟨#[]⟩, .string ⟨#[]⟩, .int .i64 0, .slice none 0 0]) := Hold.blk H6 0 rfl
  have H7 : Hold w [] w9 [rR i64 2 (.slice none 0 0) ([])] := (show Hold w [] w9 ([rR i64 2 (.slice none 0 0) ([])] ++ [rB g3 71 ([.int .i64 1, .int .i64 8, .string ⟨#[]⟩, .string ⟨#[]⟩, .int .i64 0, .slice none 0 0]), rB g5 71 ([.int .i64 1, .int .i64 8, .string ⟨#[]⟩, .string ⟨#[]⟩, .int .i64 0, .slice none 0 0])]) from Hold.re H6 [2, 0, 1] (by kernel_rfl) (by rfl)).drop
  clear H6
  exact finct (v' := .bool (decide ((gs.length : Int) = 0))) (cs := [.int .i64 1, .int .i64 8, .string ⟨#[]⟩, .string ⟨#[]⟩, .int .i64 0, .slice none 0 0]) Tryd.results128 Tryd.underlying71 rfl ti71 z3 b10 rfl rfl ⟨mkC 8 bE bE 0, decide ((gs.length : Int) = 0), .slice none 0 0, rfl, hw, H7⟩
theorem parseTrunc {w : World} {F : List Nat} {v : Value} {gs : List ByteArray} (hx : kStr.R w F v gs) (lx : gs.length ≤ 1000000) : Ret Tryd.prog 109 #[v] w (fun r w' => ∃ l ok u, r = .tuple #[lineVal l u, .bool ok] ∧ (if ok = true then l else badL) = lineF (kTrunc :: gs) ∧ Hold w [] w' [rR i64 2 u l.ns]) := by
  refine enter Tryd.func109 rfl Tryd.ntmps109 (by rfl) (by rfl) ?_
  have H0 : Hold w [] w [] := Hold.start w
  refine sq (rg (ef (xal ti71) ?_))
  rintro _ w1 ⟨g2, e1, rfl, -, b1, c1⟩
  have H1 : Hold w [] w1 [rB g2 71 ([.int .i64 0, .int .i64 0, .string ⟨#[]⟩, .string ⟨#[]⟩, .int .i64 0, .slice none 0 0])] := Hold.newB H0 e1 b1 c1
  clear H0
  clear e1 b1 c1
  refine r (sa rfl) (re (sq (sq (rg (r (mv rfl) (r (ln Tryd.underlying54 rfl ((hx.t (Hold.ch H1)))) (r (bi rfl rfl rfl) (re ?_))))))))
  refine cpn rfl (fun h => ?_) (fun h => ?_)
  · have b2 : B w1 g2 71 ([.int .i64 0, .int .i64 0, .string ⟨#[]⟩, .string ⟨#[]⟩, .int .i64 0, .slice none 0 0]) := Hold.blk H1 0 rfl
    refine sq (rg (r (bd (r := [.int .i64 0, .int .i64 0, .string ⟨#[]⟩, .string ⟨#[]⟩, .int .i64 0, .slice none 0 0]) ti71 pl71 pn rfl) (ef0 (xst (vs := [.int .i64 0, .int .i64 0, .string ⟨#[]⟩, .string ⟨#[]⟩, .int .i64 0, .slice none 0 0]) ti71 rfl rfl rfl b2 rfl (Nat.le_of_ble_eq_true rfl) (one_all rfl)) ?_)))
    rintro w3 ⟨-, b3, c3⟩
    have H2 : Hold w [] w3 [rB g2 71 ([.int .i64 0, .int .i64 0, .string ⟨#[]⟩, .string ⟨#[]⟩, .int .i64 0, .slice none 0 0])] := Hold.setB H1 0 rfl b3 c3 rfl
    clear H1
    clear b3 c3
    refine r (sa rfl) (re (rt ?_))
    have H3 : Hold w [] w3 [rB g2 71 ([.int .i64 0, .int .i64 0, .string ⟨#[]⟩, .string ⟨#[]⟩, .int .i64 0, .slice none 0 0]), rR i64 2 (.slice none 0 0) ([])] := Hold.nilrow i64 2 H2
    clear H2
    have hw : (if (false) = true then badL else badL) = lineF (kTrunc :: gs) := by
      rw [lf_trunc, if_neg (show ¬ (numsOk (gs.drop 1) = true ∧ gs.length = 2) from fun g => h (by omega))]; rfl
    have b4 : B w3 g2 71 ([.int .i64 0, .int .i64 0, .string ⟨#[]⟩, .string ⟨#[]⟩, .int .i64 0, .slice none 0 0]) := Hold.blk H3 0 rfl
    have H4 : Hold w [] w3 [rR i64 2 (.slice none 0 0) ([])] := (show Hold w [] w3 ([rR i64 2 (.slice none 0 0) ([])] ++ [rB g2 71 ([.int .i64 0, .int .i64 0, .string ⟨#[]⟩, .string ⟨#[]⟩, .int .i64 0, .slice none 0 0])]) from Hold.re H3 [1, 0] (by kernel_rfl) (by rfl)).drop
    clear H3
    exact finct (v' := .bool false) (cs := [.int .i64 0, .int .i64 0, .string ⟨#[]⟩, .string ⟨#[]⟩, .int .i64 0, .slice none 0 0]) Tryd.results109 Tryd.underlying71 rfl ti71 rfl b4 rfl rfl ⟨badL, false, .slice none 0 0, rfl, hw, H4⟩
  · have hgl : gs.length = 2 := by omega
    have hd1 : gs.drop 1 = [gF gs 1] := by
      match gs, hgl with
      | [a, b], _ => rfl
    have hnk : numsOk (gs.drop 1) = numOk (gF gs 1) := by rw [hd1]; simp [numsOk, allOk]
    have hv0 : v0 (vals (gs.drop 1)) = numV (gF gs 1) := by rw [hd1]; rfl
    refine sk (sq (rg (r (mv rfl) ?_)))
    obtain ⟨c12_2, ad12_2, k12_2, e12_2, p12_2⟩ := Kd.R.place hx 1 ((by omega))
    refine r (ix (j := 1) Tryd.underlying54 ti9 e12_2 rfl ((by omega))) (r (Rn.cast (v' := .string (gF gs 1)) (ld Tryd.underlying9 rfl rfl (Ch.cell (Hold.ch H1) p12_2.cell)) (congrArg Value.string (gd _))) (cl go126 (number0 (bs := []) (Kd.W.R (Kd.nil_W i64 2 _)) rfl) (ac rfl (ac rfl an)) ?_))
    rintro r wr1 ⟨rfl, cr1⟩
    have H2 : Hold w [] wr1 [rB g2 71 ([.int .i64 0, .int .i64 0, .string ⟨#[]⟩, .string ⟨#[]⟩, .int .i64 0, .slice none 0 0])] := Hold.t H1 cr1
    clear H1
    clear cr1
    refine r (mv rfl) (r (xt rfl rfl) (r (xt rfl rfl) (r (sa rfl) (r (sa rfl) (re (sq (sq ?_)))))))
    refine gen (fun ρ => ρ 0 = v ∧ ρ 2 = .pointer (some ⟨g2, 0, none⟩) ∧ ρ 3 = .bool false ∧ ρ 4 = .int .i64 (if numOk (gF gs 1) = true then numV (gF gs 1) else 0) ∧ ρ 5 = .bool (numOk (gF gs 1)) ∧ True) ⟨rfl, rfl, rfl, rfl, rfl, trivial⟩ ?_
    rintro ρ ⟨z0, z2, z3, z4, z5, -⟩
    refine rg (r (mv z5) (r (nt rfl) (re ?_)))
    refine cd rfl (fun h1 => ?_) (fun h1 => ?_)
    · have h1' : numOk (gF gs 1) = false := by simpa using h1
      have b4 : B wr1 g2 71 ([.int .i64 0, .int .i64 0, .string ⟨#[]⟩, .string ⟨#[]⟩, .int .i64 0, .slice none 0 0]) := Hold.blk H2 0 rfl
      refine sq (rg (r (bd (r := [.int .i64 0, .int .i64 0, .string ⟨#[]⟩, .string ⟨#[]⟩, .int .i64 0, .slice none 0 0]) ti71 pl71 pn rfl) (ef0 (xst (vs := [.int .i64 0, .int .i64 0, .string ⟨#[]⟩, .string ⟨#[]⟩, .int .i64 0, .slice none 0 0]) ti71 z2 rfl rfl b4 rfl (Nat.le_of_ble_eq_true rfl) (one_all rfl)) ?_)))
      rintro w5 ⟨-, b5, c5⟩
      have H3 : Hold w [] w5 [rB g2 71 ([.int .i64 0, .int .i64 0, .string ⟨#[]⟩, .string ⟨#[]⟩, .int .i64 0, .slice none 0 0])] := Hold.setB H2 0 rfl b5 c5 rfl
      clear H2
      clear b5 c5
      refine r (sa rfl) (re (rt ?_))
      have H4 : Hold w [] w5 [rB g2 71 ([.int .i64 0, .int .i64 0, .string ⟨#[]⟩, .string ⟨#[]⟩, .int .i64 0, .slice none 0 0]), rR i64 2 (.slice none 0 0) ([])] := Hold.nilrow i64 2 H3
      clear H3
      have hw : (if (false) = true then badL else badL) = lineF (kTrunc :: gs) := by
        rw [lf_trunc, if_neg (show ¬ (numsOk (gs.drop 1) = true ∧ gs.length = 2) from fun g => by rw [hnk, h1'] at g; exact absurd g.1 (by simp))]; rfl
      have b6 : B w5 g2 71 ([.int .i64 0, .int .i64 0, .string ⟨#[]⟩, .string ⟨#[]⟩, .int .i64 0, .slice none 0 0]) := Hold.blk H4 0 rfl
      have H5 : Hold w [] w5 [rR i64 2 (.slice none 0 0) ([])] := (show Hold w [] w5 ([rR i64 2 (.slice none 0 0) ([])] ++ [rB g2 71 ([.int .i64 0, .int .i64 0, .string ⟨#[]⟩, .string ⟨#[]⟩, .int .i64 0, .slice none 0 0])]) from Hold.re H4 [1, 0] (by kernel_rfl) (by rfl)).drop
      clear H4
      exact finct (v' := .bool false) (cs := [.int .i64 0, .int .i64 0, .string ⟨#[]⟩, .string ⟨#[]⟩, .int .i64 0, .slice none 0 0]) Tryd.results109 Tryd.underlying71 rfl ti71 z2 b6 rfl rfl ⟨badL, false, .slice none 0 0, rfl, hw, H5⟩
    · have h1' : numOk (gF gs 1) = true := by simpa using h1
      refine sk (sq (rg (r (mv z0) ?_)))
      obtain ⟨c21_4, ad21_4, k21_4, e21_4, p21_4⟩ := Kd.R.place hx 0 ((by omega))
      refine r (ix (j := 0) Tryd.underlying54 ti9 e21_4 rfl ((by omega))) (r (Rn.cast (v' := .string (gF gs 0)) (ld Tryd.underlying9 rfl rfl (Ch.cell (Hold.ch H2) p21_4.cell)) (congrArg Value.string (gd _))) (r (Rn.cast (v' := .int .i64 (numV (gF gs 1))) (mv z4) (congrArg (Value.int .i64) (if_pos h1'))) (r (bd (r := [.int .i64 3, .string (gF gs 0), .string ⟨#[]⟩, .int .i64 (numV (gF gs 1))]) ti62 pl62 (pc rfl (cel1 rfl) (pc rfl (cel1 rfl) (pc rfl (cel1 rfl) pn))) rfl) (cl go125 (impl_call) (ac rfl an) ?_))))
      rintro r wm5 ⟨rfl, cm5⟩
      have H3 : Hold w [] wm5 [rB g2 71 ([.int .i64 0, .int .i64 0, .string ⟨#[]⟩, .string ⟨#[]⟩, .int .i64 0, .slice none 0 0])] := Hold.t H2 cm5
      clear H2
      clear cm5
      have b7 : B wm5 g2 71 ([.int .i64 0, .int .i64 0, .string ⟨#[]⟩, .string ⟨#[]⟩, .int .i64 0, .slice none 0 0]) := Hold.blk H3 0 rfl
      refine r (xt rfl rfl) (r (xt rfl rfl) (ef0 (xst (vs := [.int .i64 1, .int .i64 3, .string (gF gs 0), .string ⟨#[]⟩, .int .i64 (numV (gF gs 1)), .slice none 0 0]) ti71 z2 rfl rfl b7 rfl (Nat.le_of_ble_eq_true rfl) (one_all rfl)) ?_))
      rintro w8 ⟨-, b8, c8⟩
      have H4 : Hold w [] w8 [rB g2 71 ([.int .i64 1, .int .i64 3, .string (gF gs 0), .string ⟨#[]⟩, .int .i64 (numV (gF gs 1)), .slice none 0 0])] := Hold.setB H3 0 rfl b8 c8 rfl
      clear H3
      clear b8 c8
      refine r (sa rfl) (re (rt ?_))
      have H5 : Hold w [] w8 [rB g2 71 ([.int .i64 1, .int .i64 3, .string (gF gs 0), .string ⟨#[]⟩, .int .i64 (numV (gF gs 1)), .slice none 0 0]), rR i64 2 (.slice none 0 0) ([])] := Hold.nilrow i64 2 H4
      clear H4
      have hw : (if (true) = true then mkC 3 (gF gs 0) bE (numV (gF gs 1)) else badL) = lineF (kTrunc :: gs) := by
        rw [lf_trunc, if_pos (show numsOk (gs.drop 1) = true ∧ gs.length = 2 from ⟨by rw [hnk, h1'], hgl⟩), hv0]; rfl
      have b9 : B w8 g2 71 ([.int .i64 1, .int .i64 3, .string (gF gs 0), .string ⟨#[]⟩, .int .i64 (numV (gF gs 1)), .slice none 0 0]) := Hold.blk H5 0 rfl
      have H6 : Hold w [] w8 [rR i64 2 (.slice none 0 0) ([])] := (show Hold w [] w8 ([rR i64 2 (.slice none 0 0) ([])] ++ [rB g2 71 ([.int .i64 1, .int .i64 3, .string (gF gs 0), .string ⟨#[]⟩, .int .i64 (numV (gF gs 1)), .slice none 0 0])]) from Hold.re H5 [1, 0] (by kernel_rfl) (by rfl)).drop
      clear H5
      exact finct (v' := .bool true) (cs := [.int .i64 1, .int .i64 3, .string (gF gs 0), .string ⟨#[]⟩, .int .i64 (numV (gF gs 1)), .slice none 0 0]) Tryd.results109 Tryd.underlying71 rfl ti71 z2 b9 rfl rfl ⟨mkC 3 (gF gs 0) bE (numV (gF gs 1)), true, .slice none 0 0, rfl, hw, H6⟩
end Go.Proofs.YtgpcanjmgdmdhaaDoor

namespace Go.Proofs.YtgpcanjmgdmdhaaDoor
open Go Go.Eng
set_option maxRecDepth 100000
set_option maxHeartbeats 4000000
set_option linter.unusedVariables false
set_option linter.unusedSimpArgs false
theorem let_set {m i : Nat} {f : Int} (h : i < m) : (letN i f ++ List.replicate (m - i) (0 : Int)).set i (97 + ((i : Int) + f) % 26) = letN (i + 1) f ++ List.replicate (m - (i + 1)) 0 := by
  rw [List.set_append_right _ _ (by rw [letN_len]; exact Nat.le_refl _), letN_len, Nat.sub_self, show m - i = (m - (i + 1)) + 1 by omega, List.replicate_succ, List.set_cons_zero, letN_succ, List.append_assoc]
  rfl
theorem parseFill {w : World} {F : List Nat} {v : Value} {gs : List ByteArray} (hx : kStr.R w F v gs) (lx : gs.length ≤ 1000000) : Ret Tryd.prog 107 #[v] w (fun r w' => ∃ l ok u, r = .tuple #[lineVal l u, .bool ok] ∧ (if ok = true then l else badL) = lineF (kFill :: gs) ∧ Hold w [] w' [rR i64 2 u l.ns]) := by
  refine enter Tryd.func107 rfl Tryd.ntmps107 (by rfl) (by rfl) ?_
  have H0 : Hold w [] w [] := Hold.start w
  refine sq (rg (ef (xal ti71) ?_))
  rintro _ w1 ⟨g2, e1, rfl, -, b1, c1⟩
  have H1 : Hold w [] w1 [rB g2 71 ([.int .i64 0, .int .i64 0, .string ⟨#[]⟩, .string ⟨#[]⟩, .int .i64 0, .slice none 0 0])] := Hold.newB H0 e1 b1 c1
  clear H0
  clear e1 b1 c1
  refine r (sa rfl) (re (sq (sq (rg (r (mv rfl) (r (ln Tryd.underlying54 rfl ((hx.t (Hold.ch H1)))) (r (bi rfl rfl rfl) (re ?_))))))))
  refine cpn rfl (fun h => ?_) (fun h => ?_)
  · have b2 : B w1 g2 71 ([.int .i64 0, .int .i64 0, .string ⟨#[]⟩, .string ⟨#[]⟩, .int .i64 0, .slice none 0 0]) := Hold.blk H1 0 rfl
    refine sq (rg (r (bd (r := [.int .i64 0, .int .i64 0, .string ⟨#[]⟩, .string ⟨#[]⟩, .int .i64 0, .slice none 0 0]) ti71 pl71 pn rfl) (ef0 (xst (vs := [.int .i64 0, .int .i64 0, .string ⟨#[]⟩, .string ⟨#[]⟩, .int .i64 0, .slice none 0 0]) ti71 rfl rfl rfl b2 rfl (Nat.le_of_ble_eq_true rfl) (one_all rfl)) ?_)))
    rintro w3 ⟨-, b3, c3⟩
    have H2 : Hold w [] w3 [rB g2 71 ([.int .i64 0, .int .i64 0, .string ⟨#[]⟩, .string ⟨#[]⟩, .int .i64 0, .slice none 0 0])] := Hold.setB H1 0 rfl b3 c3 rfl
    clear H1
    clear b3 c3
    refine r (sa rfl) (re (rt ?_))
    have H3 : Hold w [] w3 [rB g2 71 ([.int .i64 0, .int .i64 0, .string ⟨#[]⟩, .string ⟨#[]⟩, .int .i64 0, .slice none 0 0]), rR i64 2 (.slice none 0 0) ([])] := Hold.nilrow i64 2 H2
    clear H2
    have hw : (if (false) = true then badL else badL) = lineF (kFill :: gs) := by
      rw [lf_fill, if_neg (show ¬ (numsOk (gs.drop 1) = true ∧ gs.length = 3 ∧ (0 ≤ v0 (vals (gs.drop 1)) ∧ v0 (vals (gs.drop 1)) ≤ 2000) ∧ (0 ≤ v1 (vals (gs.drop 1)) ∧ v1 (vals (gs.drop 1)) ≤ 25)) from fun g => h (by omega))]; rfl
    have b4 : B w3 g2 71 ([.int .i64 0, .int .i64 0, .string ⟨#[]⟩, .string ⟨#[]⟩, .int .i64 0, .slice none 0 0]) := Hold.blk H3 0 rfl
    have H4 : Hold w [] w3 [rR i64 2 (.slice none 0 0) ([])] := (show Hold w [] w3 ([rR i64 2 (.slice none 0 0) ([])] ++ [rB g2 71 ([.int .i64 0, .int .i64 0, .string ⟨#[]⟩, .string ⟨#[]⟩, .int .i64 0, .slice none 0 0])]) from Hold.re H3 [1, 0] (by kernel_rfl) (by rfl)).drop
    clear H3
    exact finct (v' := .bool false) (cs := [.int .i64 0, .int .i64 0, .string ⟨#[]⟩, .string ⟨#[]⟩, .int .i64 0, .slice none 0 0]) Tryd.results107 Tryd.underlying71 rfl ti71 rfl b4 rfl rfl ⟨badL, false, .slice none 0 0, rfl, hw, H4⟩
  · have hgl : gs.length = 3 := by omega
    have hd1 : gs.drop 1 = [gF gs 1, gF gs 2] := by
      match gs, hgl with
      | [a, b, c], _ => rfl
    have hnk : numsOk (gs.drop 1) = (numOk (gF gs 1) && numOk (gF gs 2)) := by rw [hd1]; simp [numsOk, allOk]
    have hv0 : v0 (vals (gs.drop 1)) = numV (gF gs 1) := by rw [hd1]; rfl
    have hv1 : v1 (vals (gs.drop 1)) = numV (gF gs 2) := by rw [hd1]; rfl
    refine sk (sq (rg (r (mv rfl) ?_)))
    obtain ⟨c16_2, ad16_2, k16_2, e16_2, p16_2⟩ := Kd.R.place hx 1 ((by omega))
    refine r (ix (j := 1) Tryd.underlying54 ti9 e16_2 rfl ((by omega))) (r (Rn.cast (v' := .string (gF gs 1)) (ld Tryd.underlying9 rfl rfl (Ch.cell (Hold.ch H1) p16_2.cell)) (congrArg Value.string (gd _))) (ef (bsm (cs := [.int .i64 0, .int .i64 2000]) Tryd.underlying23 ti2 rfl (by rfl) (pc rfl (cel1 rfl) (pc rfl (cel1 rfl) pn)) rfl) ?_))
    rintro _ w3 ⟨g18, e3, rfl, -, b3, c3⟩
    have H2 : Hold w [] w3 [rB g2 71 ([.int .i64 0, .int .i64 0, .string ⟨#[]⟩, .string ⟨#[]⟩, .int .i64 0, .slice none 0 0]), rB g18 2 ([.int .i64 0, .int .i64 2000])] := Hold.newB H1 e3 b3 c3
    clear H1
    clear e3 b3 c3
    have b5 : B w3 g18 2 ([.int .i64 0, .int .i64 2000]) := Hold.blk H2 1 rfl
    refine cl go126 (number2 (bnl := 0) (bnh := 2000) ((row_of_B (dk := i64) (xs := [0, 2000]) b5 (els_int [0, 2000]) (Nat.le_of_ble_eq_true rfl)).R) rfl) (ac rfl (ac rfl an)) ?_
    rintro r wr1 ⟨rfl, cr1⟩
    have H3 : Hold w [] wr1 [rB g2 71 ([.int .i64 0, .int .i64 0, .string ⟨#[]⟩, .string ⟨#[]⟩, .int .i64 0, .slice none 0 0]), rB g18 2 ([.int .i64 0, .int .i64 2000])] := Hold.t H2 cr1
    clear H2
    clear cr1
    refine r (mv rfl) (r (xt rfl rfl) (r (xt rfl rfl) (r (sa rfl) (r (sa rfl) (re (sq ?_))))))
    refine gen (fun ρ => ρ 0 = v ∧ ρ 2 = .pointer (some ⟨g2, 0, none⟩) ∧ ρ 3 = .bool false ∧ ρ 4 = .int .i64 (if (numOk (gF gs 1) && decide (0 ≤ numV (gF gs 1) ∧ numV (gF gs 1) ≤ 2000)) = true then numV (gF gs 1) else 0) ∧ ρ 5 = .bool (numOk (gF gs 1) && decide (0 ≤ numV (gF gs 1) ∧ numV (gF gs 1) ≤ 2000)) ∧ True) ⟨rfl, rfl, rfl, rfl, rfl, trivial⟩ ?_
    rintro ρ ⟨z0, z2, z3, z4, z5, -⟩
    refine rg (r (mv z0) ?_)
    obtain ⟨c24_6, ad24_6, k24_6, e24_6, p24_6⟩ := Kd.R.place hx 2 ((by omega))
    refine r (ix (j := 2) Tryd.underlying54 ti9 e24_6 rfl ((by omega))) (r (Rn.cast (v' := .string (gF gs 2)) (ld Tryd.underlying9 rfl rfl (Ch.cell (Hold.ch H3) p24_6.cell)) (congrArg Value.string (gd _))) (ef (bsm (cs := [.int .i64 0, .int .i64 25]) Tryd.underlying23 ti2 rfl (by rfl) (pc rfl (cel1 rfl) (pc rfl (cel1 rfl) pn)) rfl) ?_))
    rintro _ w7 ⟨g26, e7, rfl, -, b7, c7⟩
    have H4 : Hold w [] w7 [rB g2 71 ([.int .i64 0, .int .i64 0, .string ⟨#[]⟩, .string ⟨#[]⟩, .int .i64 0, .slice none 0 0]), rB g18 2 ([.int .i64 0, .int .i64 2000]), rB g26 2 ([.int .i64 0, .int .i64 25])] := Hold.newB H3 e7 b7 c7
    clear H3
    clear e7 b7 c7
    have b9 : B w7 g26 2 ([.int .i64 0, .int .i64 25]) := Hold.blk H4 2 rfl
    refine cl go126 (number2 (bnl := 0) (bnh := 25) ((row_of_B (dk := i64) (xs := [0, 25]) b9 (els_int [0, 25]) (Nat.le_of_ble_eq_true rfl)).R) rfl) (ac rfl (ac rfl an)) ?_
    rintro r wr2 ⟨rfl, cr2⟩
    have H5 : Hold w [] wr2 [rB g2 71 ([.int .i64 0, .int .i64 0, .string ⟨#[]⟩, .string ⟨#[]⟩, .int .i64 0, .slice none 0 0]), rB g18 2 ([.int .i64 0, .int .i64 2000]), rB g26 2 ([.int .i64 0, .int .i64 25])] := Hold.t H4 cr2
    clear H4
    clear cr2
    refine r (mv rfl) (r (xt rfl rfl) (r (xt rfl rfl) (r (sa rfl) (r (sa rfl) (re (sq (sq ?_)))))))
    refine gen (fun ρ => ρ 0 = v ∧ ρ 2 = .pointer (some ⟨g2, 0, none⟩) ∧ ρ 3 = .bool false ∧ ρ 4 = .int .i64 (if (numOk (gF gs 1) && decide (0 ≤ numV (gF gs 1) ∧ numV (gF gs 1) ≤ 2000)) = true then numV (gF gs 1) else 0) ∧ ρ 5 = .bool (numOk (gF gs 1) && decide (0 ≤ numV (gF gs 1) ∧ numV (gF gs 1) ≤ 2000)) ∧ ρ 6 = .int .i64 (if (numOk (gF gs 2) && decide (0 ≤ numV (gF gs 2) ∧ numV (gF gs 2) ≤ 25)) = true then numV (gF gs 2) else 0) ∧ ρ 7 = .bool (numOk (gF gs 2) && decide (0 ≤ numV (gF gs 2) ∧ numV (gF gs 2) ≤ 25)) ∧ True) ⟨z0, z2, z3, z4, z5, rfl, rfl, trivial⟩ ?_
    rintro ρ ⟨z0, z2, z3, z4, z5, z6, z7, -⟩
    refine rg (r (mv z5) (r (nt rfl) (r (mv rfl) ?_)))
    refine spb 32 rfl (fun h1 => ?_) (fun h1 => ?_)
    · have b10 : B wr2 g2 71 ([.int .i64 0, .int .i64 0, .string ⟨#[]⟩, .string ⟨#[]⟩, .int .i64 0, .slice none 0 0]) := Hold.blk H5 0 rfl
      refine gn rfl rfl rfl (gn rfl rfl rfl (r (pk rfl rfl) (re (ct rfl (sq (rg (r (bd (r := [.int .i64 0, .int .i64 0, .string ⟨#[]⟩, .string ⟨#[]⟩, .int .i64 0, .slice none 0 0]) ti71 pl71 pn rfl) (ef0 (xst (vs := [.int .i64 0, .int .i64 0, .string ⟨#[]⟩, .string ⟨#[]⟩, .int .i64 0, .slice none 0 0]) ti71 z2 rfl rfl b10 rfl (Nat.le_of_ble_eq_true rfl) (one_all rfl)) ?_))))))))
      rintro w11 ⟨-, b11, c11⟩
      have H6 : Hold w [] w11 [rB g2 71 ([.int .i64 0, .int .i64 0, .string ⟨#[]⟩, .string ⟨#[]⟩, .int .i64 0, .slice none 0 0]), rB g18 2 ([.int .i64 0, .int .i64 2000]), rB g26 2 ([.int .i64 0, .int .i64 25])] := Hold.setB H5 0 rfl b11 c11 rfl
      clear H5
      clear b11 c11
      refine r (sa rfl) (re (rt ?_))
      have H7 : Hold w [] w11 [rB g2 71 ([.int .i64 0, .int .i64 0, .string ⟨#[]⟩, .string ⟨#[]⟩, .int .i64 0, .slice none 0 0]), rB g18 2 ([.int .i64 0, .int .i64 2000]), rB g26 2 ([.int .i64 0, .int .i64 25]), rR i64 2 (.slice none 0 0) ([])] := Hold.nilrow i64 2 H6
      clear H6
      have hw : (if (false) = true then badL else badL) = lineF (kFill :: gs) := by
        rw [lf_fill, if_neg (show ¬ (numsOk (gs.drop 1) = true ∧ gs.length = 3 ∧ (0 ≤ v0 (vals (gs.drop 1)) ∧ v0 (vals (gs.drop 1)) ≤ 2000) ∧ (0 ≤ v1 (vals (gs.drop 1)) ∧ v1 (vals (gs.drop 1)) ≤ 25)) from fun g => by
            rw [hnk, hv0, hv1, Bool.and_eq_true] at g
            have e : (numOk (gF gs 1) && decide (0 ≤ numV (gF gs 1) ∧ numV (gF gs 1) ≤ 2000)) = true := by rw [g.1.1, decide_eq_true g.2.2.1]; rfl
            rw [e] at h1; exact absurd h1 (by simp))]; rfl
      have b12 : B w11 g2 71 ([.int .i64 0, .int .i64 0, .string ⟨#[]⟩, .string ⟨#[]⟩, .int .i64 0, .slice none 0 0]) := Hold.blk H7 0 rfl
      have H8 : Hold w [] w11 [rR i64 2 (.slice none 0 0) ([])] := (show Hold w [] w11 ([rR i64 2 (.slice none 0 0) ([])] ++ [rB g2 71 ([.int .i64 0, .int .i64 0, .string ⟨#[]⟩, .string ⟨#[]⟩, .int .i64 0, .slice none 0 0]), rB g18 2 ([.int .i64 0, .int .i64 2000]), rB g26 2 ([.int .i64 0, .int .i64 25])]) from Hold.re H7 [3, 0, 1, 2] (by kernel_rfl) (by rfl)).drop
      clear H7
      exact finct (v' := .bool false) (cs := [.int .i64 0, .int .i64 0, .string ⟨#[]⟩, .string ⟨#[]⟩, .int .i64 0, .slice none 0 0]) Tryd.results107 Tryd.underlying71 rfl ti71 z2 b12 rfl rfl ⟨badL, false, .slice none 0 0, rfl, hw, H8⟩
    · refine gy rfl rfl rfl (r (mv z7) (gy rfl rfl rfl (r (nt rfl) (r (pk rfl rfl) (re ?_)))))
      refine cd rfl (fun h2 => ?_) (fun h2 => ?_)
      · have b10 : B wr2 g2 71 ([.int .i64 0, .int .i64 0, .string ⟨#[]⟩, .string ⟨#[]⟩, .int .i64 0, .slice none 0 0]) := Hold.blk H5 0 rfl
        refine sq (rg (r (bd (r := [.int .i64 0, .int .i64 0, .string ⟨#[]⟩, .string ⟨#[]⟩, .int .i64 0, .slice none 0 0]) ti71 pl71 pn rfl) (ef0 (xst (vs := [.int .i64 0, .int .i64 0, .string ⟨#[]⟩, .string ⟨#[]⟩, .int .i64 0, .slice none 0 0]) ti71 z2 rfl rfl b10 rfl (Nat.le_of_ble_eq_true rfl) (one_all rfl)) ?_)))
        rintro w11 ⟨-, b11, c11⟩
        have H6 : Hold w [] w11 [rB g2 71 ([.int .i64 0, .int .i64 0, .string ⟨#[]⟩, .string ⟨#[]⟩, .int .i64 0, .slice none 0 0]), rB g18 2 ([.int .i64 0, .int .i64 2000]), rB g26 2 ([.int .i64 0, .int .i64 25])] := Hold.setB H5 0 rfl b11 c11 rfl
        clear H5
        clear b11 c11
        refine r (sa rfl) (re (rt ?_))
        have H7 : Hold w [] w11 [rB g2 71 ([.int .i64 0, .int .i64 0, .string ⟨#[]⟩, .string ⟨#[]⟩, .int .i64 0, .slice none 0 0]), rB g18 2 ([.int .i64 0, .int .i64 2000]), rB g26 2 ([.int .i64 0, .int .i64 25]), rR i64 2 (.slice none 0 0) ([])] := Hold.nilrow i64 2 H6
        clear H6
        have hw : (if (false) = true then badL else badL) = lineF (kFill :: gs) := by
          rw [lf_fill, if_neg (show ¬ (numsOk (gs.drop 1) = true ∧ gs.length = 3 ∧ (0 ≤ v0 (vals (gs.drop 1)) ∧ v0 (vals (gs.drop 1)) ≤ 2000) ∧ (0 ≤ v1 (vals (gs.drop 1)) ∧ v1 (vals (gs.drop 1)) ≤ 25)) from fun g => by
              rw [hnk, hv0, hv1, Bool.and_eq_true] at g
              have e : (numOk (gF gs 2) && decide (0 ≤ numV (gF gs 2) ∧ numV (gF gs 2) ≤ 25)) = true := by rw [g.1.2, decide_eq_true g.2.2.2]; rfl
              rw [e] at h2; exact absurd h2 (by simp))]; rfl
        have b12 : B w11 g2 71 ([.int .i64 0, .int .i64 0, .string ⟨#[]⟩, .string ⟨#[]⟩, .int .i64 0, .slice none 0 0]) := Hold.blk H7 0 rfl
        have H8 : Hold w [] w11 [rR i64 2 (.slice none 0 0) ([])] := (show Hold w [] w11 ([rR i64 2 (.slice none 0 0) ([])] ++ [rB g2 71 ([.int .i64 0, .int .i64 0, .string ⟨#[]⟩, .string ⟨#[]⟩, .int .i64 0, .slice none 0 0]), rB g18 2 ([.int .i64 0, .int .i64 2000]), rB g26 2 ([.int .i64 0, .int .i64 25])]) from Hold.re H7 [3, 0, 1, 2] (by kernel_rfl) (by rfl)).drop
        clear H7
        exact finct (v' := .bool false) (cs := [.int .i64 0, .int .i64 0, .string ⟨#[]⟩, .string ⟨#[]⟩, .int .i64 0, .slice none 0 0]) Tryd.results107 Tryd.underlying71 rfl ti71 z2 b12 rfl rfl ⟨badL, false, .slice none 0 0, rfl, hw, H8⟩
      · have h1' : (numOk (gF gs 1) && decide (0 ≤ numV (gF gs 1) ∧ numV (gF gs 1) ≤ 2000)) = true := by simpa using h1
        have h2' : (numOk (gF gs 2) && decide (0 ≤ numV (gF gs 2) ∧ numV (gF gs 2) ≤ 25)) = true := by simpa using h2
        have h1a := h1'
        have h2a := h2'
        simp only [Bool.and_eq_true, decide_eq_true_eq] at h1a h2a
        obtain ⟨m, hm⟩ : ∃ m : Nat, numV (gF gs 1) = (m : Int) := ⟨(numV (gF gs 1)).toNat, by omega⟩
        obtain ⟨f, hf⟩ : ∃ f, f = numV (gF gs 2) := ⟨_, rfl⟩
        have hf2 : 0 ≤ f ∧ f ≤ 25 := by rw [hf]; exact h2a.2
        refine sk (sq (rg (r (Rn.cast (v' := .int .i64 (m : Int)) (mv z4) (congrArg (Value.int .i64) ((if_pos h1').trans hm))) (ef (xmk (dk := u8) (m := m) 0 Tryd.underlying22 ti5 (fun _ => ⟨rfl, rfl⟩) rfl rfl (by omega)) ?_))))
        rintro v10 w10 N10
        have H6 : Hold w [] w10 [rB g2 71 ([.int .i64 0, .int .i64 0, .string ⟨#[]⟩, .string ⟨#[]⟩, .int .i64 0, .slice none 0 0]), rB g18 2 ([.int .i64 0, .int .i64 2000]), rB g26 2 ([.int .i64 0, .int .i64 25]), rR u8 5 v10 (List.replicate m 0)] := Hold.newr H5 N10
        clear H5
        obtain ⟨_, R11⟩ : ∃ F, Kd.R u8 w10 F v10 (List.replicate m 0) := Hold.row H6 3 rfl
        refine r (sa rfl) (re (sq (sq (rg (r (mv rfl) (r (ln Tryd.underlying22 rfl (R11)) (r (mv rfl) (re (bl ?_)))))))))
        have e0 : List.replicate m (0 : Int) = letN 0 f ++ List.replicate (m - 0) 0 := by simp [letN]
        rw [e0] at H6
        refine lp (α := Nat) (fun i ρ w' => ρ 0 = v ∧ ρ 2 = .pointer (some ⟨g2, 0, none⟩) ∧ ρ 6 = .int .i64 f ∧ ρ 8 = v10 ∧ ρ 40 = .int .i64 (m : Int) ∧ ρ 41 = .int .i64 (i : Int) ∧ Hold w [] w' [rB g2 71 ([.int .i64 0, .int .i64 0, .string ⟨#[]⟩, .string ⟨#[]⟩, .int .i64 0, .slice none 0 0]), rB g18 2 ([.int .i64 0, .int .i64 2000]), rB g26 2 ([.int .i64 0, .int .i64 25]), rR u8 5 v10 (letN i f ++ List.replicate (m - i) 0)] ∧ i ≤ m) (fun i => m - i) 0 ?_ ?_
        · exact ⟨z0, z2, (z6.trans (congrArg (Value.int .i64) ((if_pos h2').trans hf.symm))), rfl, (congrArg (fun n : Nat => Value.int .i64 (n : Int)) (List.length_replicate ..)), rfl, H6, by omega⟩
        clear H6
        rintro i ρ w507 ⟨y0, y2, y6, y8, y40, y41, H7, hi⟩
        refine sq (rg (r (bi y41 y40 rfl) (re (sq ?_))))
        refine cp rfl (fun hlt => ?_) (fun hlt => ?_)
        · have hi' : i < m := by omega
          have hr : ((i : Int) + f).tmod 26 = ((i : Int) + f) % 26 := Int.tmod_eq_emod_of_nonneg (by omega)
          have hl : (letN i f ++ List.replicate (m - i) (0 : Int)).length = m := by rw [List.length_append, letN_len, List.length_replicate]; omega
          obtain ⟨F13, P13, n13, s13, K13⟩ := Hold.pick H7 3 rfl
          replace P13 : Kd.W u8 5 w507 F13 v10 (letN i f ++ List.replicate (m - i) 0) := P13
          refine sk (sq (bl (sq (rg (r (mv y41) (r (sa rfl) (re (rg (r (mv y8) (r (mv rfl) (r (mv rfl) (r (mv y6) (r (ad (a := (i : Int)) (b := f) ((i : Int) + f) rfl rfl (by omega)) (r (rm (a := (i : Int) + f) (b := 26) (((i : Int) + f) % 26) rfl rfl ⟨by omega, hr⟩) (r (cv (((i : Int) + f) % 26) Tryd.underlying2 Tryd.underlying5 rfl (by rw [u8_in] <;> omega)) (r (adw (97 + ((i : Int) + f) % 26) rfl rfl (by rw [u8_in] <;> omega)) (ixs (a := 97 + ((i : Int) + f) % 26) (j := i) Tryd.underlying22 ti5 rfl P13 rfl (by rw [hl]; exact hi') (fun _ => rfl) ⟨rfl, rfl⟩ (nodup_nil n13) ?_)))))))))))))))))
          intro _ w12 F12 s12 A12
          have H8 : Hold w [] w12 [rB g2 71 ([.int .i64 0, .int .i64 0, .string ⟨#[]⟩, .string ⟨#[]⟩, .int .i64 0, .slice none 0 0]), rB g18 2 ([.int .i64 0, .int .i64 2000]), rB g26 2 ([.int .i64 0, .int .i64 25]), rR u8 5 v10 ((letN i f ++ List.replicate (m - i) 0).set i (97 + ((i : Int) + f) % 26))] := Hold.apd K13 P13 A12 rfl
          clear H7
          clear A12 K13 P13 n13 s13 s12
          refine re (be ?_)
          refine gen (fun ρ => ρ 0 = v ∧ ρ 2 = .pointer (some ⟨g2, 0, none⟩) ∧ ρ 6 = .int .i64 f ∧ ρ 8 = v10 ∧ ρ 40 = .int .i64 (m : Int) ∧ ρ 41 = .int .i64 (i : Int) ∧ True) ⟨y0, y2, y6, y8, y40, y41, trivial⟩ ?_
          rintro ρ ⟨z0, z2, z6, z8, z40, z41, -⟩
          refine rg (r (ad (a := (i : Int)) (b := 1) ((i : Int) + 1) z41 rfl (by omega)) (r (mv rfl) (re ?_)))
          exact ag (i + 1) ⟨z0, z2, z6, z8, z40, rfl, (by have := H8; rwa [let_set hi'] at this), by omega⟩ (by first | omega | (dsimp only; omega))
        · have ei : i = m := by omega
          rw [ei, Nat.sub_self, List.replicate_zero, List.append_nil] at H7
          refine ex rfl (sq ?_)
          refine rde mixed ?_
          intro w12 c12
          have H8 : Hold w [] w12 [rB g2 71 ([.int .i64 0, .int .i64 0, .string ⟨#[]⟩, .string ⟨#[]⟩, .int .i64 0, .slice none 0 0]), rB g18 2 ([.int .i64 0, .int .i64 2000]), rB g26 2 ([.int .i64 0, .int .i64 25]), rR u8 5 v10 (letN m f)] := Hold.t H7 c12
          clear H7
          clear c12
          obtain ⟨Fd13, hFd13, nd13, Kd13, Xd13, sd13⟩ := Hold.frontx (Γ := [rB g2 71 ([.int .i64 0, .int .i64 0, .string ⟨#[]⟩, .string ⟨#[]⟩, .int .i64 0, .slice none 0 0])]) (Δ := [rB g18 2 ([.int .i64 0, .int .i64 2000]), rB g26 2 ([.int .i64 0, .int .i64 25]), rR u8 5 v10 (letN m f)]) H8
          have H13d0 : Hold w12 Fd13 w12 [rB g2 71 ([.int .i64 0, .int .i64 0, .string ⟨#[]⟩, .string ⟨#[]⟩, .int .i64 0, .slice none 0 0])] := Hold.begin hFd13 nd13
          refine ⟨fun w' => Ch Fd13 w12 w', Ch.refl _ _, ?_⟩
          refine edt 0 rfl (by kernel_rfl) (fun w' hS => mv y0) ?_
          obtain ⟨c55_14, ad55_14, k55_14, e55_14, p55_14⟩ := Kd.R.place hx 0 ((by omega))
          obtain ⟨_, R15, x15⟩ := Xd13 2 (rR u8 5 v10 (letN m f)) rfl
          replace R15 := Kd.W.R R15
          refine edt 1 rfl (by kernel_rfl) (fun w' hS => ix (j := 0) Tryd.underlying54 ti9 e55_14 rfl ((by omega))) (edt 2 rfl (by kernel_rfl) (fun w' hS => Rn.cast (v' := .string (gF gs 0)) (ld Tryd.underlying9 rfl rfl (Ch.cellN hS sd13 (Hold.ch H8) p55_14.cell)) (congrArg Value.string (gd _))) (edt 3 rfl (by kernel_rfl) (fun w' hS => mv y8) (edt 4 rfl (by kernel_rfl) (fun w' hS => cvbs Tryd.underlying22 Tryd.underlying5 Tryd.underlying9 (R15.tt hS x15) rfl) (edt 5 rfl (by kernel_rfl) (fun w' hS => bd (r := [.int .i64 1, .string (gF gs 0), .string (mkS (letN m f)), .int .i64 0]) ti62 pl62 (pc rfl (cel1 rfl) (pc rfl (cel1 rfl) (pc rfl (cel1 rfl) pn))) rfl) (ed1 6 (by kernel_rfl) <| euc rfl go125 (ac rfl an) (impl_call) ?_)))))
          rintro r wm16 ⟨rfl, cm16⟩
          have H9d : Hold w12 Fd13 wm16 [rB g2 71 ([.int .i64 0, .int .i64 0, .string ⟨#[]⟩, .string ⟨#[]⟩, .int .i64 0, .slice none 0 0])] := Hold.t H13d0 cm16
          clear H13d0
          clear cm16
          refine ⟨.inr (Hold.ch H9d), ?_⟩
          have b18 : B wm16 g2 71 ([.int .i64 0, .int .i64 0, .string ⟨#[]⟩, .string ⟨#[]⟩, .int .i64 0, .slice none 0 0]) := Hold.blk H9d 0 rfl
          refine edt 7 rfl (by kernel_rfl) (fun w' hS => xt rfl rfl) (edt 8 rfl (by kernel_rfl) (fun w' hS => xt rfl rfl) (ed1 9 (by kernel_rfl) <| euf0 rfl (xst (vs := [.int .i64 1, .int .i64 1, .string (gF gs 0), .string (mkS (letN m f)), .int .i64 0, .slice none 0 0]) ti71 y2 rfl rfl b18 rfl (Nat.le_of_ble_eq_true rfl) (one_all rfl)) ?_))
          rintro w19 ⟨-, b19, c19⟩
          have H10d : Hold w12 Fd13 w19 [rB g2 71 ([.int .i64 1, .int .i64 1, .string (gF gs 0), .string (mkS (letN m f)), .int .i64 0, .slice none 0 0])] := Hold.setB H9d 0 rfl b19 c19 rfl
          clear H9d
          clear b19 c19
          refine ⟨.inr (Hold.ch H10d), ?_⟩
          have H11 : Hold w [] w19 [rB g2 71 ([.int .i64 1, .int .i64 1, .string (gF gs 0), .string (mkS (letN m f)), .int .i64 0, .slice none 0 0]), rB g18 2 ([.int .i64 0, .int .i64 2000]), rB g26 2 ([.int .i64 0, .int .i64 25]), rR u8 5 v10 (letN m f)] := Hold.call Kd13 H10d
          clear H10d H8
          refine ed1 10 (by kernel_rfl) <| eur rfl (sa rfl) (.inl (by kernel_rfl)) ?_
          refine edd (by kernel_rfl) ?_
          refine rt ?_
          have H12 : Hold w [] w19 [rB g2 71 ([.int .i64 1, .int .i64 1, .string (gF gs 0), .string (mkS (letN m f)), .int .i64 0, .slice none 0 0]), rB g18 2 ([.int .i64 0, .int .i64 2000]), rB g26 2 ([.int .i64 0, .int .i64 25]), rR u8 5 v10 (letN m f), rR i64 2 (.slice none 0 0) ([])] := Hold.nilrow i64 2 H11
          clear H11
          have hw : (if (true) = true then mkC 1 (gF gs 0) (mkS (letN m f)) 0 else badL) = lineF (kFill :: gs) := by
            rw [lf_fill, if_pos (show numsOk (gs.drop 1) = true ∧ gs.length = 3 ∧ (0 ≤ v0 (vals (gs.drop 1)) ∧ v0 (vals (gs.drop 1)) ≤ 2000) ∧ (0 ≤ v1 (vals (gs.drop 1)) ∧ v1 (vals (gs.drop 1)) ≤ 25) from ⟨by rw [hnk, h1a.1, h2a.1]; rfl, hgl, by rw [hv0]; exact h1a.2, by rw [hv1]; exact h2a.2⟩), hv0, hv1, hm, ← hf]; rfl
          have b20 : B w19 g2 71 ([.int .i64 1, .int .i64 1, .string (gF gs 0), .string (mkS (letN m f)), .int .i64 0, .slice none 0 0]) := Hold.blk H12 0 rfl
          have H13 : Hold w [] w19 [rR i64 2 (.slice none 0 0) ([])] := (show Hold w [] w19 ([rR i64 2 (.slice none 0 0) ([])] ++ [rB g2 71 ([.int .i64 1, .int .i64 1, .string (gF gs 0), .string (mkS (letN m f)), .int .i64 0, .slice none 0 0]), rB g18 2 ([.int .i64 0, .int .i64 2000]), rB g26 2 ([.int .i64 0, .int .i64 25]), rR u8 5 v10 (letN m f)]) from Hold.re H12 [4, 0, 1, 2, 3] (by kernel_rfl) (by rfl)).drop
          clear H12
          exact finct (v' := .bool true) (cs := [.int .i64 1, .int .i64 1, .string (gF gs 0), .string (mkS (letN m f)), .int .i64 0, .slice none 0 0]) Tryd.results107 Tryd.underlying71 rfl ti71 y2 b20 rfl rfl ⟨mkC 1 (gF gs 0) (mkS (letN m f)) 0, true, .slice none 0 0, rfl, hw, H13⟩
end Go.Proofs.YtgpcanjmgdmdhaaDoor

namespace Go.Proofs.YtgpcanjmgdmdhaaDoor
open Go Go.Eng
set_option maxRecDepth 100000
set_option maxHeartbeats 4000000
set_option linter.unusedVariables false
set_option linter.unusedSimpArgs false
theorem parseWrite_no {w : World} {F : List Nat} {v : Value} {gs : List ByteArray} (hx : kStr.R w F v gs) (lx : gs.length ≤ 1000000) (hne : gs.length ≠ 2) : Ret Tryd.prog 106 #[v] w (fun r w' => ∃ l ok u, r = .tuple #[lineVal l u, .bool ok] ∧ (if ok = true then l else badL) = lineF (kWrite :: gs) ∧ Hold w [] w' [rR i64 2 u l.ns]) := by
  refine enter Tryd.func106 rfl Tryd.ntmps106 (by rfl) (by rfl) ?_
  have H0 : Hold w [] w [] := Hold.start w
  refine sq (rg (ef (xal ti71) ?_))
  rintro _ w1 ⟨g2, e1, rfl, -, b1, c1⟩
  have H1 : Hold w [] w1 [rB g2 71 ([.int .i64 0, .int .i64 0, .string ⟨#[]⟩, .string ⟨#[]⟩, .int .i64 0, .slice none 0 0])] := Hold.newB H0 e1 b1 c1
  clear H0
  clear e1 b1 c1
  refine r (sa rfl) (re (sq (sq (rg (r (mv rfl) (r (ln Tryd.underlying54 rfl ((hx.t (Hold.ch H1)))) (r (bi rfl rfl rfl) (re ?_))))))))
  refine ct ((rfl : _ = Value.bool (!decide ((gs.length : Int) = 2))).trans (congrArg Value.bool (show (!decide ((gs.length : Int) = 2)) = true from (by rw [decide_eq_false (by omega)]; rfl)))) ?_
  have b2 : B w1 g2 71 ([.int .i64 0, .int .i64 0, .string ⟨#[]⟩, .string ⟨#[]⟩, .int .i64 0, .slice none 0 0]) := Hold.blk H1 0 rfl
  refine sq (rg (r (bd (r := [.int .i64 0, .int .i64 0, .string ⟨#[]⟩, .string ⟨#[]⟩, .int .i64 0, .slice none 0 0]) ti71 pl71 pn rfl) (ef0 (xst (vs := [.int .i64 0, .int .i64 0, .string ⟨#[]⟩, .string ⟨#[]⟩, .int .i64 0, .slice none 0 0]) ti71 rfl rfl rfl b2 rfl (Nat.le_of_ble_eq_true rfl) (one_all rfl)) ?_)))
  rintro w3 ⟨-, b3, c3⟩
  have H2 : Hold w [] w3 [rB g2 71 ([.int .i64 0, .int .i64 0, .string ⟨#[]⟩, .string ⟨#[]⟩, .int .i64 0, .slice none 0 0])] := Hold.setB H1 0 rfl b3 c3 rfl
  clear H1
  clear b3 c3
  refine r (sa rfl) (re (rt ?_))
  have H3 : Hold w [] w3 [rB g2 71 ([.int .i64 0, .int .i64 0, .string ⟨#[]⟩, .string ⟨#[]⟩, .int .i64 0, .slice none 0 0]), rR i64 2 (.slice none 0 0) ([])] := Hold.nilrow i64 2 H2
  clear H2
  have hw : (if (false) = true then badL else badL) = lineF (kWrite :: gs) := by
    rw [lf_write, if_neg (show ¬ gs.length = 2 from hne)]; rfl
  have b4 : B w3 g2 71 ([.int .i64 0, .int .i64 0, .string ⟨#[]⟩, .string ⟨#[]⟩, .int .i64 0, .slice none 0 0]) := Hold.blk H3 0 rfl
  have H4 : Hold w [] w3 [rR i64 2 (.slice none 0 0) ([])] := (show Hold w [] w3 ([rR i64 2 (.slice none 0 0) ([])] ++ [rB g2 71 ([.int .i64 0, .int .i64 0, .string ⟨#[]⟩, .string ⟨#[]⟩, .int .i64 0, .slice none 0 0])]) from Hold.re H3 [1, 0] (by kernel_rfl) (by rfl)).drop
  clear H3
  exact finct (v' := .bool false) (cs := [.int .i64 0, .int .i64 0, .string ⟨#[]⟩, .string ⟨#[]⟩, .int .i64 0, .slice none 0 0]) Tryd.results106 Tryd.underlying71 rfl ti71 rfl b4 rfl rfl ⟨badL, false, .slice none 0 0, rfl, hw, H4⟩
theorem els_str1 {w : World} {xs : List ByteArray} : ∀ {F : List Nat} {cs : List Value}, Els (kStr.O w) F xs cs → F = [] ∧ cs = xs.map Value.string := by
  induction xs with
  | nil => rintro F cs ⟨h1, h2⟩; exact ⟨h1, h2⟩
  | cons x xs ih => rintro F cs ⟨F1, F2, c1, c2, rfl, rfl, h1, h2⟩; obtain ⟨rfl, rfl⟩ := ih h2; exact ⟨by rw [h1.2]; rfl, by rw [h1.1]; rfl⟩
theorem parseWrite_yes {w : World} {F : List Nat} {g : Nat} {s0 s1 s2 : ByteArray} (h : Hs w [rR kStr 9 (.slice (some ⟨g, 0, none⟩) 3 3) [s0, s1, s2]] F) (nd : F.Nodup) : Ret Tryd.prog 106 #[.slice (some ⟨g, 1, none⟩) 2 2] w (fun r w' => ∃ l ok u, r = .tuple #[lineVal l u, .bool ok] ∧ (if ok = true then l else badL) = lineF (kWrite :: [s1, s2]) ∧ Hold w F w' [rR i64 2 u l.ns]) := by
  refine enter Tryd.func106 rfl Tryd.ntmps106 (by rfl) (by rfl) ?_
  have H0 : Hold w F w [rR kStr 9 (.slice (some ⟨g, 0, none⟩) 3 3) ([s0, s1, s2])] := Hold.begin h nd
  have H1 : Hold w F w [rB g 9 ([.string s0, .string s1, .string s2])] := Hold.asblk (cs := [.string s0, .string s1, .string s2]) H0 0 rfl els_str1 rfl rfl (by omega) rfl
  clear H0
  refine sq (rg (ef (xal ti71) ?_))
  rintro _ w1 ⟨g2, e1, rfl, -, b1, c1⟩
  have H2 : Hold w F w1 [rB g 9 ([.string s0, .string s1, .string s2]), rB g2 71 ([.int .i64 0, .int .i64 0, .string ⟨#[]⟩, .string ⟨#[]⟩, .int .i64 0, .slice none 0 0])] := Hold.newB H1 e1 b1 c1
  clear H1
  clear e1 b1 c1
  refine r (sa rfl) (re (sq (sq (rg (r (mv rfl) (r (lnl Tryd.underlying54 rfl) (r (bi rfl rfl rfl) (re ?_))))))))
  refine cf ((rfl : _ = Value.bool (!decide ((2 : Int) = 2))).trans (congrArg Value.bool (show (!decide ((2 : Int) = 2)) = false from (by rw [decide_eq_true rfl]; rfl)))) ?_
  have b2 : B w1 g 9 ([.string s0, .string s1, .string s2]) := Hold.blk H2 0 rfl
  refine sk (sq (sq (rg (r (mv rfl) (r (ixl 1 Tryd.underlying54 ti9 rfl rfl (by omega)) (r (ldb Tryd.underlying9 rfl rfl b2 rfl) (r (seq rfl rfl) (re ?_))))))))
  refine cp rfl (fun hd => ?_) (fun hd => ?_)
  · refine rg (r (mv rfl) (r (ixl 1 Tryd.underlying54 ti9 rfl rfl (by omega)) (ef0 (xst (vs := [.string (⟨#[]⟩ : ByteArray)]) ti9 rfl rfl (cel1 rfl) b2 rfl (Nat.le_of_ble_eq_true rfl) (one_all rfl)) ?_)))
    rintro w3 ⟨-, b3, c3⟩
    have H3 : Hold w F w3 [rB g 9 ([.string s0, .string s1, .string (⟨#[]⟩ : ByteArray)]), rB g2 71 ([.int .i64 0, .int .i64 0, .string ⟨#[]⟩, .string ⟨#[]⟩, .int .i64 0, .slice none 0 0])] := Hold.setB H2 0 rfl b3 c3 rfl
    clear H2
    clear b3 c3
    refine re (sq ?_)
    refine gen (fun ρ => ρ 0 = .slice (some ⟨g, 1, none⟩) 2 2 ∧ ρ 2 = .pointer (some ⟨g2, 0, none⟩) ∧ ρ 3 = .bool false ∧ True) ⟨rfl, rfl, rfl, trivial⟩ ?_
    rintro ρ ⟨z0, z2, z3, -⟩
    refine rde mixed ?_
    intro w4 c4
    have H4 : Hold w F w4 [rB g 9 ([.string s0, .string s1, .string (⟨#[]⟩ : ByteArray)]), rB g2 71 ([.int .i64 0, .int .i64 0, .string ⟨#[]⟩, .string ⟨#[]⟩, .int .i64 0, .slice none 0 0])] := Hold.t H3 c4
    clear H3
    clear c4
    have H5 : Hold w F w4 [rB g2 71 ([.int .i64 0, .int .i64 0, .string ⟨#[]⟩, .string ⟨#[]⟩, .int .i64 0, .slice none 0 0]), rB g 9 ([.string s0, .string s1, .string (⟨#[]⟩ : ByteArray)])] := Hold.re H4 [1, 0] (by kernel_rfl) (by rfl)
    clear H4
    obtain ⟨Fd5, hFd5, nd5, Kd5, Xd5, sd5⟩ := Hold.frontx (Γ := [rB g2 71 ([.int .i64 0, .int .i64 0, .string ⟨#[]⟩, .string ⟨#[]⟩, .int .i64 0, .slice none 0 0])]) (Δ := [rB g 9 ([.string s0, .string s1, .string (⟨#[]⟩ : ByteArray)])]) H5
    have H5d0 : Hold w4 Fd5 w4 [rB g2 71 ([.int .i64 0, .int .i64 0, .string ⟨#[]⟩, .string ⟨#[]⟩, .int .i64 0, .slice none 0 0])] := Hold.begin hFd5 nd5
    refine ⟨fun w' => Ch Fd5 w4 w', Ch.refl _ _, ?_⟩
    obtain ⟨_, ⟨rfl, b6⟩, x6⟩ := Xd5 0 (rB g 9 ([.string s0, .string s1, .string (⟨#[]⟩ : ByteArray)])) rfl
    refine edt 0 rfl (by kernel_rfl) (fun w' hS => mv z0) (edt 1 rfl (by kernel_rfl) (fun w' hS => ixl 0 Tryd.underlying54 ti9 rfl rfl (by omega)) (edt 2 rfl (by kernel_rfl) (fun w' hS => ldb Tryd.underlying9 rfl rfl (hS.b b6 (x6 _ (by simp))) rfl) (edt 3 rfl (by kernel_rfl) (fun w' hS => mv z0) (edt 4 rfl (by kernel_rfl) (fun w' hS => ixl 1 Tryd.underlying54 ti9 rfl rfl (by omega)) (edt 5 rfl (by kernel_rfl) (fun w' hS => ldb Tryd.underlying9 rfl rfl (hS.b b6 (x6 _ (by simp))) rfl) (edt 6 rfl (by kernel_rfl) (fun w' hS => bd (r := [.int .i64 1, .string s1, .string (⟨#[]⟩ : ByteArray), .int .i64 0]) ti62 pl62 (pc rfl (cel1 rfl) (pc rfl (cel1 rfl) (pc rfl (cel1 rfl) pn))) rfl) (ed1 7 (by kernel_rfl) <| euc rfl go125 (ac rfl an) (impl_call) ?_)))))))
    rintro r wm7 ⟨rfl, cm7⟩
    have H6d : Hold w4 Fd5 wm7 [rB g2 71 ([.int .i64 0, .int .i64 0, .string ⟨#[]⟩, .string ⟨#[]⟩, .int .i64 0, .slice none 0 0])] := Hold.t H5d0 cm7
    clear H5d0
    clear cm7
    refine ⟨.inr (Hold.ch H6d), ?_⟩
    have b9 : B wm7 g2 71 ([.int .i64 0, .int .i64 0, .string ⟨#[]⟩, .string ⟨#[]⟩, .int .i64 0, .slice none 0 0]) := Hold.blk H6d 0 rfl
    refine edt 8 rfl (by kernel_rfl) (fun w' hS => xt rfl rfl) (edt 9 rfl (by kernel_rfl) (fun w' hS => xt rfl rfl) (ed1 10 (by kernel_rfl) <| euf0 rfl (xst (vs := [.int .i64 1, .int .i64 1, .string s1, .string (⟨#[]⟩ : ByteArray), .int .i64 0, .slice none 0 0]) ti71 z2 rfl rfl b9 rfl (Nat.le_of_ble_eq_true rfl) (one_all rfl)) ?_))
    rintro w10 ⟨-, b10, c10⟩
    have H7d : Hold w4 Fd5 w10 [rB g2 71 ([.int .i64 1, .int .i64 1, .string s1, .string (⟨#[]⟩ : ByteArray), .int .i64 0, .slice none 0 0])] := Hold.setB H6d 0 rfl b10 c10 rfl
    clear H6d
    clear b10 c10
    refine ⟨.inr (Hold.ch H7d), ?_⟩
    have H8 : Hold w F w10 [rB g2 71 ([.int .i64 1, .int .i64 1, .string s1, .string (⟨#[]⟩ : ByteArray), .int .i64 0, .slice none 0 0]), rB g 9 ([.string s0, .string s1, .string (⟨#[]⟩ : ByteArray)])] := Hold.call Kd5 H7d
    clear H7d H5
    refine ed1 11 (by kernel_rfl) <| eur rfl (sa rfl) (.inl (by kernel_rfl)) ?_
    refine edd (by kernel_rfl) ?_
    refine rt ?_
    have H9 : Hold w F w10 [rB g2 71 ([.int .i64 1, .int .i64 1, .string s1, .string (⟨#[]⟩ : ByteArray), .int .i64 0, .slice none 0 0]), rB g 9 ([.string s0, .string s1, .string (⟨#[]⟩ : ByteArray)]), rR i64 2 (.slice none 0 0) ([])] := Hold.nilrow i64 2 H8
    clear H8
    have hw : (if true = true then mkC 1 s1 (bE) 0 else badL) = lineF (kWrite :: [s1, s2]) := by
      rw [lf_write, if_pos (show [s1, s2].length = 2 from rfl)]
      show mkC 1 s1 (bE) 0 = mkC 1 s1 (dash s2) 0
      rw [dash, if_pos hd]
    have b11 : B w10 g2 71 ([.int .i64 1, .int .i64 1, .string s1, .string (⟨#[]⟩ : ByteArray), .int .i64 0, .slice none 0 0]) := Hold.blk H9 0 rfl
    have H10 : Hold w F w10 [rR i64 2 (.slice none 0 0) ([])] := (show Hold w F w10 ([rR i64 2 (.slice none 0 0) ([])] ++ [rB g2 71 ([.int .i64 1, .int .i64 1, .string s1, .string (⟨#[]⟩ : ByteArray), .int .i64 0, .slice none 0 0]), rB g 9 ([.string s0, .string s1, .string (⟨#[]⟩ : ByteArray)])]) from Hold.re H9 [2, 0, 1] (by kernel_rfl) (by rfl)).drop
    clear H9
    exact finct (v' := .bool true) (cs := [.int .i64 1, .int .i64 1, .string s1, .string (⟨#[]⟩ : ByteArray), .int .i64 0, .slice none 0 0]) Tryd.results106 Tryd.underlying71 rfl ti71 z2 b11 rfl rfl ⟨mkC 1 s1 (bE) 0, true, .slice none 0 0, rfl, hw, H10⟩
  · refine sk (sq ?_)
    refine rde mixed ?_
    intro w3 c3
    have H3 : Hold w F w3 [rB g 9 ([.string s0, .string s1, .string s2]), rB g2 71 ([.int .i64 0, .int .i64 0, .string ⟨#[]⟩, .string ⟨#[]⟩, .int .i64 0, .slice none 0 0])] := Hold.t H2 c3
    clear H2
    clear c3
    have H4 : Hold w F w3 [rB g2 71 ([.int .i64 0, .int .i64 0, .string ⟨#[]⟩, .string ⟨#[]⟩, .int .i64 0, .slice none 0 0]), rB g 9 ([.string s0, .string s1, .string s2])] := Hold.re H3 [1, 0] (by kernel_rfl) (by rfl)
    clear H3
    obtain ⟨Fd4, hFd4, nd4, Kd4, Xd4, sd4⟩ := Hold.frontx (Γ := [rB g2 71 ([.int .i64 0, .int .i64 0, .string ⟨#[]⟩, .string ⟨#[]⟩, .int .i64 0, .slice none 0 0])]) (Δ := [rB g 9 ([.string s0, .string s1, .string s2])]) H4
    have H4d0 : Hold w3 Fd4 w3 [rB g2 71 ([.int .i64 0, .int .i64 0, .string ⟨#[]⟩, .string ⟨#[]⟩, .int .i64 0, .slice none 0 0])] := Hold.begin hFd4 nd4
    refine ⟨fun w' => Ch Fd4 w3 w', Ch.refl _ _, ?_⟩
    obtain ⟨_, ⟨rfl, b5⟩, x5⟩ := Xd4 0 (rB g 9 ([.string s0, .string s1, .string s2])) rfl
    refine edt 0 rfl (by kernel_rfl) (fun w' hS => mv rfl) (edt 1 rfl (by kernel_rfl) (fun w' hS => ixl 0 Tryd.underlying54 ti9 rfl rfl (by omega)) (edt 2 rfl (by kernel_rfl) (fun w' hS => ldb Tryd.underlying9 rfl rfl (hS.b b5 (x5 _ (by simp))) rfl) (edt 3 rfl (by kernel_rfl) (fun w' hS => mv rfl) (edt 4 rfl (by kernel_rfl) (fun w' hS => ixl 1 Tryd.underlying54 ti9 rfl rfl (by omega)) (edt 5 rfl (by kernel_rfl) (fun w' hS => ldb Tryd.underlying9 rfl rfl (hS.b b5 (x5 _ (by simp))) rfl) (edt 6 rfl (by kernel_rfl) (fun w' hS => bd (r := [.int .i64 1, .string s1, .string s2, .int .i64 0]) ti62 pl62 (pc rfl (cel1 rfl) (pc rfl (cel1 rfl) (pc rfl (cel1 rfl) pn))) rfl) (ed1 7 (by kernel_rfl) <| euc rfl go125 (ac rfl an) (impl_call) ?_)))))))
    rintro r wm6 ⟨rfl, cm6⟩
    have H5d : Hold w3 Fd4 wm6 [rB g2 71 ([.int .i64 0, .int .i64 0, .string ⟨#[]⟩, .string ⟨#[]⟩, .int .i64 0, .slice none 0 0])] := Hold.t H4d0 cm6
    clear H4d0
    clear cm6
    refine ⟨.inr (Hold.ch H5d), ?_⟩
    have b8 : B wm6 g2 71 ([.int .i64 0, .int .i64 0, .string ⟨#[]⟩, .string ⟨#[]⟩, .int .i64 0, .slice none 0 0]) := Hold.blk H5d 0 rfl
    refine edt 8 rfl (by kernel_rfl) (fun w' hS => xt rfl rfl) (edt 9 rfl (by kernel_rfl) (fun w' hS => xt rfl rfl) (ed1 10 (by kernel_rfl) <| euf0 rfl (xst (vs := [.int .i64 1, .int .i64 1, .string s1, .string s2, .int .i64 0, .slice none 0 0]) ti71 rfl rfl rfl b8 rfl (Nat.le_of_ble_eq_true rfl) (one_all rfl)) ?_))
    rintro w9 ⟨-, b9, c9⟩
    have H6d : Hold w3 Fd4 w9 [rB g2 71 ([.int .i64 1, .int .i64 1, .string s1, .string s2, .int .i64 0, .slice none 0 0])] := Hold.setB H5d 0 rfl b9 c9 rfl
    clear H5d
    clear b9 c9
    refine ⟨.inr (Hold.ch H6d), ?_⟩
    have H7 : Hold w F w9 [rB g2 71 ([.int .i64 1, .int .i64 1, .string s1, .string s2, .int .i64 0, .slice none 0 0]), rB g 9 ([.string s0, .string s1, .string s2])] := Hold.call Kd4 H6d
    clear H6d H4
    refine ed1 11 (by kernel_rfl) <| eur rfl (sa rfl) (.inl (by kernel_rfl)) ?_
    refine edd (by kernel_rfl) ?_
    refine rt ?_
    have H8 : Hold w F w9 [rB g2 71 ([.int .i64 1, .int .i64 1, .string s1, .string s2, .int .i64 0, .slice none 0 0]), rB g 9 ([.string s0, .string s1, .string s2]), rR i64 2 (.slice none 0 0) ([])] := Hold.nilrow i64 2 H7
    clear H7
    have hw : (if true = true then mkC 1 s1 (s2) 0 else badL) = lineF (kWrite :: [s1, s2]) := by
      rw [lf_write, if_pos (show [s1, s2].length = 2 from rfl)]
      show mkC 1 s1 (s2) 0 = mkC 1 s1 (dash s2) 0
      rw [dash, if_neg hd]
    have b10 : B w9 g2 71 ([.int .i64 1, .int .i64 1, .string s1, .string s2, .int .i64 0, .slice none 0 0]) := Hold.blk H8 0 rfl
    have H9 : Hold w F w9 [rR i64 2 (.slice none 0 0) ([])] := (show Hold w F w9 ([rR i64 2 (.slice none 0 0) ([])] ++ [rB g2 71 ([.int .i64 1, .int .i64 1, .string s1, .string s2, .int .i64 0, .slice none 0 0]), rB g 9 ([.string s0, .string s1, .string s2])]) from Hold.re H8 [2, 0, 1] (by kernel_rfl) (by rfl)).drop
    clear H8
    exact finct (v' := .bool true) (cs := [.int .i64 1, .int .i64 1, .string s1, .string s2, .int .i64 0, .slice none 0 0]) Tryd.results106 Tryd.underlying71 rfl ti71 rfl b10 rfl rfl ⟨mkC 1 s1 (s2) 0, true, .slice none 0 0, rfl, hw, H9⟩
theorem named_ {w : World} {k : Int} : Ret Tryd.prog 108 #[.int .i64 k] w (fun r w' => ∃ g, r = .func (.func 127) #[] [.pointer (some ⟨g, 0, none⟩)].toArray ∧ Hold w [] w' [rB g 2 [.int .i64 k]]) := by
  refine enter Tryd.func108 rfl Tryd.ntmps108 (by rfl) (by rfl) ?_
  have H0 : Hold w [] w [] := Hold.start w
  refine sq (rg (ef (xbx (t := 2) rfl (cel1 rfl)) ?_))
  rintro _ w1 ⟨g1, e1, rfl, -, b1, c1⟩
  have H1 : Hold w [] w1 [rB g1 2 ([.int .i64 k])] := Hold.newB H0 e1 b1 c1
  clear H0
  clear e1 b1 c1
  refine r (sa rfl) (re (sq (rg (r (mf (vs := []) (cs := [.pointer (some ⟨g1, 0, none⟩)]) an (ac rfl an)) (r (sa rfl) (re (rt ?_)))))))
  exact fin1 (v := .func (.func 127) #[] [.pointer (some ⟨g1, 0, none⟩)].toArray) Tryd.results108 rfl ⟨g1, rfl, H1⟩
theorem bare_ {w : World} {k : Int} : Ret Tryd.prog 110 #[.int .i64 k] w (fun r w' => ∃ g, r = .func (.func 128) #[] [.pointer (some ⟨g, 0, none⟩)].toArray ∧ Hold w [] w' [rB g 2 [.int .i64 k]]) := by
  refine enter Tryd.func110 rfl Tryd.ntmps110 (by rfl) (by rfl) ?_
  have H0 : Hold w [] w [] := Hold.start w
  refine sq (rg (ef (xbx (t := 2) rfl (cel1 rfl)) ?_))
  rintro _ w1 ⟨g1, e1, rfl, -, b1, c1⟩
  have H1 : Hold w [] w1 [rB g1 2 ([.int .i64 k])] := Hold.newB H0 e1 b1 c1
  clear H0
  clear e1 b1 c1
  refine r (sa rfl) (re (sq (rg (r (mf (vs := []) (cs := [.pointer (some ⟨g1, 0, none⟩)]) an (ac rfl an)) (r (sa rfl) (re (rt ?_)))))))
  exact fin1 (v := .func (.func 128) #[] [.pointer (some ⟨g1, 0, none⟩)].toArray) Tryd.results110 rfl ⟨g1, rfl, H1⟩
abbrev clN (g : Nat) : Value := .func (.func 127) #[] [.pointer (some ⟨g, 0, none⟩)].toArray
abbrev clB (g : Nat) : Value := .func (.func 128) #[] [.pointer (some ⟨g, 0, none⟩)].toArray
abbrev parsersL (g2 g3 g4 g5 g6 g7 : Nat) : List (ByteArray × Value) := [(kWrite, .func (.func 106) #[] #[]), (kFill, .func (.func 107) #[] #[]), (kRead, clN g2), (kTrunc, .func (.func 109) #[] #[]), (kDel, clN g3), (kList, clB g4), (kSync, clB g5), (kClean, clB g6), (kStat, clB g7), (kMount, .func (.func 111) #[] #[]), (kArm, .func (.func 112) #[] #[]), (kCrash, .func (.func 113) #[] #[]), (kFlip, .func (.func 114) #[] #[])]
theorem parsers {w : World} : Ret Tryd.prog 79 #[] w (fun r w' => ∃ m g2 g3 g4 g5 g6 g7, r = .map (some m) ∧ Hold w [] w' [rMS m (parsersL g2 g3 g4 g5 g6 g7), rB g2 2 [.int .i64 2], rB g3 2 [.int .i64 4], rB g4 2 [.int .i64 5], rB g5 2 [.int .i64 6], rB g6 2 [.int .i64 7], rB g7 2 [.int .i64 8]]) := by
  refine enter Tryd.func79 rfl Tryd.ntmps79 (by rfl) (by rfl) ?_
  have H0 : Hold w [] w [] := Hold.start w
  refine sq (rg (r (sa rfl) (re (sq (rg (ef (xmms) ?_))))))
  rintro _ w1 ⟨m1, e1, rfl, b1, c1⟩
  have H1 : Hold w [] w1 [rMS m1 []] := Hold.newMS H0 e1 b1 c1
  clear H0
  clear e1 b1 c1
  have b2 := Hold.mps (g := m1) H1 0 rfl
  refine ef0 (xins (v := .func (.func 106) #[] #[]) Tryd.underlying121 Tryd.underlying9 rfl rfl rfl b2 (by simp [lookS])) ?_
  rintro w3 ⟨b3, c3⟩
  have H2 : Hold w [] w3 [rMS m1 [((⟨#[119, 114, 105, 116, 101]⟩ : ByteArray), .func (.func 106) #[] #[])]] := Hold.setMS H1 0 rfl b3 c3 rfl
  clear H1
  clear b3 c3
  have b4 := Hold.mps (g := m1) H2 0 rfl
  refine ef0 (xins (v := .func (.func 107) #[] #[]) Tryd.underlying121 Tryd.underlying9 rfl rfl rfl b4 (by simp [lookS])) ?_
  rintro w5 ⟨b5, c5⟩
  have H3 : Hold w [] w5 [rMS m1 [((⟨#[119, 114, 105, 116, 101]⟩ : ByteArray), .func (.func 106) #[] #[]), ((⟨#[102, 105, 108, 108]⟩ : ByteArray), .func (.func 107) #[] #[])]] := Hold.setMS H2 0 rfl b5 c5 rfl
  clear H2
  clear b5 c5
  refine cl go108 (named_ (k := 2)) (ac rfl an) ?_
  rintro r2 wk2 ⟨gk2, rfl, Hk2⟩
  have H4 : Hold w [] wk2 [rMS m1 [((⟨#[119, 114, 105, 116, 101]⟩ : ByteArray), .func (.func 106) #[] #[]), ((⟨#[102, 105, 108, 108]⟩ : ByteArray), .func (.func 107) #[] #[])], rB gk2 2 ([.int .i64 2])] := Hold.news H3 Hk2
  clear H3
  clear Hk2
  have b7 := Hold.mps (g := m1) H4 0 rfl
  refine ef0 (xins (v := .func (.func 127) #[] [.pointer (some ⟨gk2, 0, none⟩)].toArray) Tryd.underlying121 Tryd.underlying9 rfl rfl rfl b7 (by simp [lookS])) ?_
  rintro w8 ⟨b8, c8⟩
  have H5 : Hold w [] w8 [rMS m1 [((⟨#[119, 114, 105, 116, 101]⟩ : ByteArray), .func (.func 106) #[] #[]), ((⟨#[102, 105, 108, 108]⟩ : ByteArray), .func (.func 107) #[] #[]), ((⟨#[114, 101, 97, 100]⟩ : ByteArray), .func (.func 127) #[] [.pointer (some ⟨gk2, 0, none⟩)].toArray)], rB gk2 2 ([.int .i64 2])] := Hold.setMS H4 0 rfl b8 c8 rfl
  clear H4
  clear b8 c8
  have b9 := Hold.mps (g := m1) H5 0 rfl
  refine ef0 (xins (v := .func (.func 109) #[] #[]) Tryd.underlying121 Tryd.underlying9 rfl rfl rfl b9 (by simp [lookS])) ?_
  rintro w10 ⟨b10, c10⟩
  have H6 : Hold w [] w10 [rMS m1 [((⟨#[119, 114, 105, 116, 101]⟩ : ByteArray), .func (.func 106) #[] #[]), ((⟨#[102, 105, 108, 108]⟩ : ByteArray), .func (.func 107) #[] #[]), ((⟨#[114, 101, 97, 100]⟩ : ByteArray), .func (.func 127) #[] [.pointer (some ⟨gk2, 0, none⟩)].toArray), ((⟨#[116, 114, 117, 110, 99]⟩ : ByteArray), .func (.func 109) #[] #[])], rB gk2 2 ([.int .i64 2])] := Hold.setMS H5 0 rfl b10 c10 rfl
  clear H5
  clear b10 c10
  refine cl go108 (named_ (k := 4)) (ac rfl an) ?_
  rintro r3 wk3 ⟨gk3, rfl, Hk3⟩
  have H7 : Hold w [] wk3 [rMS m1 [((⟨#[119, 114, 105, 116, 101]⟩ : ByteArray), .func (.func 106) #[] #[]), ((⟨#[102, 105, 108, 108]⟩ : ByteArray), .func (.func 107) #[] #[]), ((⟨#[114, 101, 97, 100]⟩ : ByteArray), .func (.func 127) #[] [.pointer (some ⟨gk2, 0, none⟩)].toArray), ((⟨#[116, 114, 117, 110, 99]⟩ : ByteArray), .func (.func 109) #[] #[])], rB gk2 2 ([.int .i64 2]), rB gk3 2 ([.int .i64 4])] := Hold.news H6 Hk3
  clear H6
  clear Hk3
  have b12 := Hold.mps (g := m1) H7 0 rfl
  refine ef0 (xins (v := .func (.func 127) #[] [.pointer (some ⟨gk3, 0, none⟩)].toArray) Tryd.underlying121 Tryd.underlying9 rfl rfl rfl b12 (by simp [lookS])) ?_
  rintro w13 ⟨b13, c13⟩
  have H8 : Hold w [] w13 [rMS m1 [((⟨#[119, 114, 105, 116, 101]⟩ : ByteArray), .func (.func 106) #[] #[]), ((⟨#[102, 105, 108, 108]⟩ : ByteArray), .func (.func 107) #[] #[]), ((⟨#[114, 101, 97, 100]⟩ : ByteArray), .func (.func 127) #[] [.pointer (some ⟨gk2, 0, none⟩)].toArray), ((⟨#[116, 114, 117, 110, 99]⟩ : ByteArray), .func (.func 109) #[] #[]), ((⟨#[100, 101, 108]⟩ : ByteArray), .func (.func 127) #[] [.pointer (some ⟨gk3, 0, none⟩)].toArray)], rB gk2 2 ([.int .i64 2]), rB gk3 2 ([.int .i64 4])] := Hold.setMS H7 0 rfl b13 c13 rfl
  clear H7
  clear b13 c13
  refine cl go110 (bare_ (k := 5)) (ac rfl an) ?_
  rintro r4 wk4 ⟨gk4, rfl, Hk4⟩
  have H9 : Hold w [] wk4 [rMS m1 [((⟨#[119, 114, 105, 116, 101]⟩ : ByteArray), .func (.func 106) #[] #[]), ((⟨#[102, 105, 108, 108]⟩ : ByteArray), .func (.func 107) #[] #[]), ((⟨#[114, 101, 97, 100]⟩ : ByteArray), .func (.func 127) #[] [.pointer (some ⟨gk2, 0, none⟩)].toArray), ((⟨#[116, 114, 117, 110, 99]⟩ : ByteArray), .func (.func 109) #[] #[]), ((⟨#[100, 101, 108]⟩ : ByteArray), .func (.func 127) #[] [.pointer (some ⟨gk3, 0, none⟩)].toArray)], rB gk2 2 ([.int .i64 2]), rB gk3 2 ([.int .i64 4]), rB gk4 2 ([.int .i64 5])] := Hold.news H8 Hk4
  clear H8
  clear Hk4
  have b15 := Hold.mps (g := m1) H9 0 rfl
  refine ef0 (xins (v := .func (.func 128) #[] [.pointer (some ⟨gk4, 0, none⟩)].toArray) Tryd.underlying121 Tryd.underlying9 rfl rfl rfl b15 (by simp [lookS])) ?_
  rintro w16 ⟨b16, c16⟩
  have H10 : Hold w [] w16 [rMS m1 [((⟨#[119, 114, 105, 116, 101]⟩ : ByteArray), .func (.func 106) #[] #[]), ((⟨#[102, 105, 108, 108]⟩ : ByteArray), .func (.func 107) #[] #[]), ((⟨#[114, 101, 97, 100]⟩ : ByteArray), .func (.func 127) #[] [.pointer (some ⟨gk2, 0, none⟩)].toArray), ((⟨#[116, 114, 117, 110, 99]⟩ : ByteArray), .func (.func 109) #[] #[]), ((⟨#[100, 101, 108]⟩ : ByteArray), .func (.func 127) #[] [.pointer (some ⟨gk3, 0, none⟩)].toArray), ((⟨#[108, 105, 115, 116]⟩ : ByteArray), .func (.func 128) #[] [.pointer (some ⟨gk4, 0, none⟩)].toArray)], rB gk2 2 ([.int .i64 2]), rB gk3 2 ([.int .i64 4]), rB gk4 2 ([.int .i64 5])] := Hold.setMS H9 0 rfl b16 c16 rfl
  clear H9
  clear b16 c16
  refine cl go110 (bare_ (k := 6)) (ac rfl an) ?_
  rintro r5 wk5 ⟨gk5, rfl, Hk5⟩
  have H11 : Hold w [] wk5 [rMS m1 [((⟨#[119, 114, 105, 116, 101]⟩ : ByteArray), .func (.func 106) #[] #[]), ((⟨#[102, 105, 108, 108]⟩ : ByteArray), .func (.func 107) #[] #[]), ((⟨#[114, 101, 97, 100]⟩ : ByteArray), .func (.func 127) #[] [.pointer (some ⟨gk2, 0, none⟩)].toArray), ((⟨#[116, 114, 117, 110, 99]⟩ : ByteArray), .func (.func 109) #[] #[]), ((⟨#[100, 101, 108]⟩ : ByteArray), .func (.func 127) #[] [.pointer (some ⟨gk3, 0, none⟩)].toArray), ((⟨#[108, 105, 115, 116]⟩ : ByteArray), .func (.func 128) #[] [.pointer (some ⟨gk4, 0, none⟩)].toArray)], rB gk2 2 ([.int .i64 2]), rB gk3 2 ([.int .i64 4]), rB gk4 2 ([.int .i64 5]), rB gk5 2 ([.int .i64 6])] := Hold.news H10 Hk5
  clear H10
  clear Hk5
  have b18 := Hold.mps (g := m1) H11 0 rfl
  refine ef0 (xins (v := .func (.func 128) #[] [.pointer (some ⟨gk5, 0, none⟩)].toArray) Tryd.underlying121 Tryd.underlying9 rfl rfl rfl b18 (by simp [lookS])) ?_
  rintro w19 ⟨b19, c19⟩
  have H12 : Hold w [] w19 [rMS m1 [((⟨#[119, 114, 105, 116, 101]⟩ : ByteArray), .func (.func 106) #[] #[]), ((⟨#[102, 105, 108, 108]⟩ : ByteArray), .func (.func 107) #[] #[]), ((⟨#[114, 101, 97, 100]⟩ : ByteArray), .func (.func 127) #[] [.pointer (some ⟨gk2, 0, none⟩)].toArray), ((⟨#[116, 114, 117, 110, 99]⟩ : ByteArray), .func (.func 109) #[] #[]), ((⟨#[100, 101, 108]⟩ : ByteArray), .func (.func 127) #[] [.pointer (some ⟨gk3, 0, none⟩)].toArray), ((⟨#[108, 105, 115, 116]⟩ : ByteArray), .func (.func 128) #[] [.pointer (some ⟨gk4, 0, none⟩)].toArray), ((⟨#[115, 121, 110, 99]⟩ : ByteArray), .func (.func 128) #[] [.pointer (some ⟨gk5, 0, none⟩)].toArray)], rB gk2 2 ([.int .i64 2]), rB gk3 2 ([.int .i64 4]), rB gk4 2 ([.int .i64 5]), rB gk5 2 ([.int .i64 6])] := Hold.setMS H11 0 rfl b19 c19 rfl
  clear H11
  clear b19 c19
  refine cl go110 (bare_ (k := 7)) (ac rfl an) ?_
  rintro r6 wk6 ⟨gk6, rfl, Hk6⟩
  have H13 : Hold w [] wk6 [rMS m1 [((⟨#[119, 114, 105, 116, 101]⟩ : ByteArray), .func (.func 106) #[] #[]), ((⟨#[102, 105, 108, 108]⟩ : ByteArray), .func (.func 107) #[] #[]), ((⟨#[114, 101, 97, 100]⟩ : ByteArray), .func (.func 127) #[] [.pointer (some ⟨gk2, 0, none⟩)].toArray), ((⟨#[116, 114, 117, 110, 99]⟩ : ByteArray), .func (.func 109) #[] #[]), ((⟨#[100, 101, 108]⟩ : ByteArray), .func (.func 127) #[] [.pointer (some ⟨gk3, 0, none⟩)].toArray), ((⟨#[108, 105, 115, 116]⟩ : ByteArray), .func (.func 128) #[] [.pointer (some ⟨gk4, 0, none⟩)].toArray), ((⟨#[115, 121, 110, 99]⟩ : ByteArray), .func (.func 128) #[] [.pointer (some ⟨gk5, 0, none⟩)].toArray)], rB gk2 2 ([.int .i64 2]), rB gk3 2 ([.int .i64 4]), rB gk4 2 ([.int .i64 5]), rB gk5 2 ([.int .i64 6]), rB gk6 2 ([.int .i64 7])] := Hold.news H12 Hk6
  clear H12
  clear Hk6
  have b21 := Hold.mps (g := m1) H13 0 rfl
  refine ef0 (xins (v := .func (.func 128) #[] [.pointer (some ⟨gk6, 0, none⟩)].toArray) Tryd.underlying121 Tryd.underlying9 rfl rfl rfl b21 (by simp [lookS])) ?_
  rintro w22 ⟨b22, c22⟩
  have H14 : Hold w [] w22 [rMS m1 [((⟨#[119, 114, 105, 116, 101]⟩ : ByteArray), .func (.func 106) #[] #[]), ((⟨#[102, 105, 108, 108]⟩ : ByteArray), .func (.func 107) #[] #[]), ((⟨#[114, 101, 97, 100]⟩ : ByteArray), .func (.func 127) #[] [.pointer (some ⟨gk2, 0, none⟩)].toArray), ((⟨#[116, 114, 117, 110, 99]⟩ : ByteArray), .func (.func 109) #[] #[]), ((⟨#[100, 101, 108]⟩ : ByteArray), .func (.func 127) #[] [.pointer (some ⟨gk3, 0, none⟩)].toArray), ((⟨#[108, 105, 115, 116]⟩ : ByteArray), .func (.func 128) #[] [.pointer (some ⟨gk4, 0, none⟩)].toArray), ((⟨#[115, 121, 110, 99]⟩ : ByteArray), .func (.func 128) #[] [.pointer (some ⟨gk5, 0, none⟩)].toArray), ((⟨#[99, 108, 101, 97, 110]⟩ : ByteArray), .func (.func 128) #[] [.pointer (some ⟨gk6, 0, none⟩)].toArray)], rB gk2 2 ([.int .i64 2]), rB gk3 2 ([.int .i64 4]), rB gk4 2 ([.int .i64 5]), rB gk5 2 ([.int .i64 6]), rB gk6 2 ([.int .i64 7])] := Hold.setMS H13 0 rfl b22 c22 rfl
  clear H13
  clear b22 c22
  refine cl go110 (bare_ (k := 8)) (ac rfl an) ?_
  rintro r7 wk7 ⟨gk7, rfl, Hk7⟩
  have H15 : Hold w [] wk7 [rMS m1 [((⟨#[119, 114, 105, 116, 101]⟩ : ByteArray), .func (.func 106) #[] #[]), ((⟨#[102, 105, 108, 108]⟩ : ByteArray), .func (.func 107) #[] #[]), ((⟨#[114, 101, 97, 100]⟩ : ByteArray), .func (.func 127) #[] [.pointer (some ⟨gk2, 0, none⟩)].toArray), ((⟨#[116, 114, 117, 110, 99]⟩ : ByteArray), .func (.func 109) #[] #[]), ((⟨#[100, 101, 108]⟩ : ByteArray), .func (.func 127) #[] [.pointer (some ⟨gk3, 0, none⟩)].toArray), ((⟨#[108, 105, 115, 116]⟩ : ByteArray), .func (.func 128) #[] [.pointer (some ⟨gk4, 0, none⟩)].toArray), ((⟨#[115, 121, 110, 99]⟩ : ByteArray), .func (.func 128) #[] [.pointer (some ⟨gk5, 0, none⟩)].toArray), ((⟨#[99, 108, 101, 97, 110]⟩ : ByteArray), .func (.func 128) #[] [.pointer (some ⟨gk6, 0, none⟩)].toArray)], rB gk2 2 ([.int .i64 2]), rB gk3 2 ([.int .i64 4]), rB gk4 2 ([.int .i64 5]), rB gk5 2 ([.int .i64 6]), rB gk6 2 ([.int .i64 7]), rB gk7 2 ([.int .i64 8])] := Hold.news H14 Hk7
  clear H14
  clear Hk7
  have b24 := Hold.mps (g := m1) H15 0 rfl
  refine ef0 (xins (v := .func (.func 128) #[] [.pointer (some ⟨gk7, 0, none⟩)].toArray) Tryd.underlying121 Tryd.underlying9 rfl rfl rfl b24 (by simp [lookS])) ?_
  rintro w25 ⟨b25, c25⟩
  have H16 : Hold w [] w25 [rMS m1 [((⟨#[119, 114, 105, 116, 101]⟩ : ByteArray), .func (.func 106) #[] #[]), ((⟨#[102, 105, 108, 108]⟩ : ByteArray), .func (.func 107) #[] #[]), ((⟨#[114, 101, 97, 100]⟩ : ByteArray), .func (.func 127) #[] [.pointer (some ⟨gk2, 0, none⟩)].toArray), ((⟨#[116, 114, 117, 110, 99]⟩ : ByteArray), .func (.func 109) #[] #[]), ((⟨#[100, 101, 108]⟩ : ByteArray), .func (.func 127) #[] [.pointer (some ⟨gk3, 0, none⟩)].toArray), ((⟨#[108, 105, 115, 116]⟩ : ByteArray), .func (.func 128) #[] [.pointer (some ⟨gk4, 0, none⟩)].toArray), ((⟨#[115, 121, 110, 99]⟩ : ByteArray), .func (.func 128) #[] [.pointer (some ⟨gk5, 0, none⟩)].toArray), ((⟨#[99, 108, 101, 97, 110]⟩ : ByteArray), .func (.func 128) #[] [.pointer (some ⟨gk6, 0, none⟩)].toArray), ((⟨#[115, 116, 97, 116]⟩ : ByteArray), .func (.func 128) #[] [.pointer (some ⟨gk7, 0, none⟩)].toArray)], rB gk2 2 ([.int .i64 2]), rB gk3 2 ([.int .i64 4]), rB gk4 2 ([.int .i64 5]), rB gk5 2 ([.int .i64 6]), rB gk6 2 ([.int .i64 7]), rB gk7 2 ([.int .i64 8])] := Hold.setMS H15 0 rfl b25 c25 rfl
  clear H15
  clear b25 c25
  have b26 := Hold.mps (g := m1) H16 0 rfl
  refine ef0 (xins (v := .func (.func 111) #[] #[]) Tryd.underlying121 Tryd.underlying9 rfl rfl rfl b26 (by simp [lookS])) ?_
  rintro w27 ⟨b27, c27⟩
  have H17 : Hold w [] w27 [rMS m1 [((⟨#[119, 114, 105, 116, 101]⟩ : ByteArray), .func (.func 106) #[] #[]), ((⟨#[102, 105, 108, 108]⟩ : ByteArray), .func (.func 107) #[] #[]), ((⟨#[114, 101, 97, 100]⟩ : ByteArray), .func (.func 127) #[] [.pointer (some ⟨gk2, 0, none⟩)].toArray), ((⟨#[116, 114, 117, 110, 99]⟩ : ByteArray), .func (.func 109) #[] #[]), ((⟨#[100, 101, 108]⟩ : ByteArray), .func (.func 127) #[] [.pointer (some ⟨gk3, 0, none⟩)].toArray), ((⟨#[108, 105, 115, 116]⟩ : ByteArray), .func (.func 128) #[] [.pointer (some ⟨gk4, 0, none⟩)].toArray), ((⟨#[115, 121, 110, 99]⟩ : ByteArray), .func (.func 128) #[] [.pointer (some ⟨gk5, 0, none⟩)].toArray), ((⟨#[99, 108, 101, 97, 110]⟩ : ByteArray), .func (.func 128) #[] [.pointer (some ⟨gk6, 0, none⟩)].toArray), ((⟨#[115, 116, 97, 116]⟩ : ByteArray), .func (.func 128) #[] [.pointer (some ⟨gk7, 0, none⟩)].toArray), ((⟨#[109, 111, 117, 110, 116]⟩ : ByteArray), .func (.func 111) #[] #[])], rB gk2 2 ([.int .i64 2]), rB gk3 2 ([.int .i64 4]), rB gk4 2 ([.int .i64 5]), rB gk5 2 ([.int .i64 6]), rB gk6 2 ([.int .i64 7]), rB gk7 2 ([.int .i64 8])] := Hold.setMS H16 0 rfl b27 c27 rfl
  clear H16
  clear b27 c27
  have b28 := Hold.mps (g := m1) H17 0 rfl
  refine ef0 (xins (v := .func (.func 112) #[] #[]) Tryd.underlying121 Tryd.underlying9 rfl rfl rfl b28 (by simp [lookS])) ?_
  rintro w29 ⟨b29, c29⟩
  have H18 : Hold w [] w29 [rMS m1 [((⟨#[119, 114, 105, 116, 101]⟩ : ByteArray), .func (.func 106) #[] #[]), ((⟨#[102, 105, 108, 108]⟩ : ByteArray), .func (.func 107) #[] #[]), ((⟨#[114, 101, 97, 100]⟩ : ByteArray), .func (.func 127) #[] [.pointer (some ⟨gk2, 0, none⟩)].toArray), ((⟨#[116, 114, 117, 110, 99]⟩ : ByteArray), .func (.func 109) #[] #[]), ((⟨#[100, 101, 108]⟩ : ByteArray), .func (.func 127) #[] [.pointer (some ⟨gk3, 0, none⟩)].toArray), ((⟨#[108, 105, 115, 116]⟩ : ByteArray), .func (.func 128) #[] [.pointer (some ⟨gk4, 0, none⟩)].toArray), ((⟨#[115, 121, 110, 99]⟩ : ByteArray), .func (.func 128) #[] [.pointer (some ⟨gk5, 0, none⟩)].toArray), ((⟨#[99, 108, 101, 97, 110]⟩ : ByteArray), .func (.func 128) #[] [.pointer (some ⟨gk6, 0, none⟩)].toArray), ((⟨#[115, 116, 97, 116]⟩ : ByteArray), .func (.func 128) #[] [.pointer (some ⟨gk7, 0, none⟩)].toArray), ((⟨#[109, 111, 117, 110, 116]⟩ : ByteArray), .func (.func 111) #[] #[]), ((⟨#[97, 114, 109]⟩ : ByteArray), .func (.func 112) #[] #[])], rB gk2 2 ([.int .i64 2]), rB gk3 2 ([.int .i64 4]), rB gk4 2 ([.int .i64 5]), rB gk5 2 ([.int .i64 6]), rB gk6 2 ([.int .i64 7]), rB gk7 2 ([.int .i64 8])] := Hold.setMS H17 0 rfl b29 c29 rfl
  clear H17
  clear b29 c29
  have b30 := Hold.mps (g := m1) H18 0 rfl
  refine ef0 (xins (v := .func (.func 113) #[] #[]) Tryd.underlying121 Tryd.underlying9 rfl rfl rfl b30 (by simp [lookS])) ?_
  rintro w31 ⟨b31, c31⟩
  have H19 : Hold w [] w31 [rMS m1 [((⟨#[119, 114, 105, 116, 101]⟩ : ByteArray), .func (.func 106) #[] #[]), ((⟨#[102, 105, 108, 108]⟩ : ByteArray), .func (.func 107) #[] #[]), ((⟨#[114, 101, 97, 100]⟩ : ByteArray), .func (.func 127) #[] [.pointer (some ⟨gk2, 0, none⟩)].toArray), ((⟨#[116, 114, 117, 110, 99]⟩ : ByteArray), .func (.func 109) #[] #[]), ((⟨#[100, 101, 108]⟩ : ByteArray), .func (.func 127) #[] [.pointer (some ⟨gk3, 0, none⟩)].toArray), ((⟨#[108, 105, 115, 116]⟩ : ByteArray), .func (.func 128) #[] [.pointer (some ⟨gk4, 0, none⟩)].toArray), ((⟨#[115, 121, 110, 99]⟩ : ByteArray), .func (.func 128) #[] [.pointer (some ⟨gk5, 0, none⟩)].toArray), ((⟨#[99, 108, 101, 97, 110]⟩ : ByteArray), .func (.func 128) #[] [.pointer (some ⟨gk6, 0, none⟩)].toArray), ((⟨#[115, 116, 97, 116]⟩ : ByteArray), .func (.func 128) #[] [.pointer (some ⟨gk7, 0, none⟩)].toArray), ((⟨#[109, 111, 117, 110, 116]⟩ : ByteArray), .func (.func 111) #[] #[]), ((⟨#[97, 114, 109]⟩ : ByteArray), .func (.func 112) #[] #[]), ((⟨#[99, 114, 97, 115, 104]⟩ : ByteArray), .func (.func 113) #[] #[])], rB gk2 2 ([.int .i64 2]), rB gk3 2 ([.int .i64 4]), rB gk4 2 ([.int .i64 5]), rB gk5 2 ([.int .i64 6]), rB gk6 2 ([.int .i64 7]), rB gk7 2 ([.int .i64 8])] := Hold.setMS H18 0 rfl b31 c31 rfl
  clear H18
  clear b31 c31
  have b32 := Hold.mps (g := m1) H19 0 rfl
  refine ef0 (xins (v := .func (.func 114) #[] #[]) Tryd.underlying121 Tryd.underlying9 rfl rfl rfl b32 (by simp [lookS])) ?_
  rintro w33 ⟨b33, c33⟩
  have H20 : Hold w [] w33 [rMS m1 [((⟨#[119, 114, 105, 116, 101]⟩ : ByteArray), .func (.func 106) #[] #[]), ((⟨#[102, 105, 108, 108]⟩ : ByteArray), .func (.func 107) #[] #[]), ((⟨#[114, 101, 97, 100]⟩ : ByteArray), .func (.func 127) #[] [.pointer (some ⟨gk2, 0, none⟩)].toArray), ((⟨#[116, 114, 117, 110, 99]⟩ : ByteArray), .func (.func 109) #[] #[]), ((⟨#[100, 101, 108]⟩ : ByteArray), .func (.func 127) #[] [.pointer (some ⟨gk3, 0, none⟩)].toArray), ((⟨#[108, 105, 115, 116]⟩ : ByteArray), .func (.func 128) #[] [.pointer (some ⟨gk4, 0, none⟩)].toArray), ((⟨#[115, 121, 110, 99]⟩ : ByteArray), .func (.func 128) #[] [.pointer (some ⟨gk5, 0, none⟩)].toArray), ((⟨#[99, 108, 101, 97, 110]⟩ : ByteArray), .func (.func 128) #[] [.pointer (some ⟨gk6, 0, none⟩)].toArray), ((⟨#[115, 116, 97, 116]⟩ : ByteArray), .func (.func 128) #[] [.pointer (some ⟨gk7, 0, none⟩)].toArray), ((⟨#[109, 111, 117, 110, 116]⟩ : ByteArray), .func (.func 111) #[] #[]), ((⟨#[97, 114, 109]⟩ : ByteArray), .func (.func 112) #[] #[]), ((⟨#[99, 114, 97, 115, 104]⟩ : ByteArray), .func (.func 113) #[] #[]), ((⟨#[102, 108, 105, 112]⟩ : ByteArray), .func (.func 114) #[] #[])], rB gk2 2 ([.int .i64 2]), rB gk3 2 ([.int .i64 4]), rB gk4 2 ([.int .i64 5]), rB gk5 2 ([.int .i64 6]), rB gk6 2 ([.int .i64 7]), rB gk7 2 ([.int .i64 8])] := Hold.setMS H19 0 rfl b33 c33 rfl
  clear H19
  clear b33 c33
  refine r (mv rfl) (r (sa rfl) (re (rt ?_)))
  exact fin1 (v := .map (some m1)) Tryd.results79 rfl ⟨m1, gk2, gk3, gk4, gk5, gk6, gk7, rfl, H20⟩
theorem Split_ {w : World} {s : ByteArray} {m : Int} (hs : s.size ≤ 1000000) (hm : w.cell? ⟨1, 0, none⟩ = some (.int .i64 m)) : Ret Tryd.prog 78 #[.string s, .string (⟨#[32]⟩ : ByteArray)] w (fun r w' => ∃ g, r = .slice (some ⟨g, 0, none⟩) (cutF (nums8 s)).length (cutF (nums8 s)).length ∧ Hold w [] w' [rR kStr 9 (.slice (some ⟨g, 0, none⟩) (cutF (nums8 s)).length (cutF (nums8 s)).length) (cutF (nums8 s))]) := by
  have hc := splitB_cut s
  have hl := cutF_len (nums8 s)
  rw [nums8_len] at hl
  refine Ret.of (Tryd.strings_Split s (⟨#[32]⟩ : ByteArray) m w (by omega) hm (by decide)) fun e w' ⟨he, hw⟩ => ⟨_, he, w.heap.size, ?_, ?_⟩
  · rw [← hc.2]; rfl
  · subst hw
    rw [hc.1]
    have H0 : Hold w [] (w.alloc (.cells ((cutF (nums8 s)).map Value.string).toArray 9)) [rB w.heap.size 9 ((cutF (nums8 s)).map Value.string)] := Hold.newB (Hold.start w) rfl (heap_alloc_new w _) (ch_alloc w _)
    exact Hold.asrow (dk := kStr) (xs := cutF (nums8 s)) H0 0 rfl (els_str _) ⟨rfl, by simp only [maxLen]; omega⟩ rfl
end Go.Proofs.YtgpcanjmgdmdhaaDoor
