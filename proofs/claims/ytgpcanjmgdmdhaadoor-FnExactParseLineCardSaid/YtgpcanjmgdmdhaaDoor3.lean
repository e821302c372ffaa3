/-
  CONTRACTS 3: the reference's PickVictim; what both answer is the same. No condition.
-/
import Derived.Test.YtgpcanjmgdmdhaaDoor2
namespace Go.Proofs.YtgpcanjmgdmdhaaDoor
open Go Go.Eng
set_option maxRecDepth 100000
set_option linter.unusedVariables false
theorem bst_fold (r : List (Int × Int)) : ∀ x, bst (x :: r) = if r ≠ [] ∧ (bst r).2 < x.2 then bst r else x := by
  induction r with
  | nil => intro x; simp [bst]
  | cons y r ih =>
    intro x
    have h1 : bst (x :: y :: r) = bst ((if y.2 < x.2 then y else x) :: r) := rfl
    rw [h1, ih, ih y]
    by_cases e : r = []
    · subst e; simp
    · simp only [ne_eq, e, not_false_eq_true, true_and, reduceCtorEq]
      by_cases a : y.2 < x.2 <;> by_cases b : (bst r).2 < y.2 <;> by_cases c : (bst r).2 < x.2 <;> simp [a, b, c] <;> omega
theorem bst_mem (l : List (Int × Int)) (h : l ≠ []) : bst l ∈ l := by
  induction l with
  | nil => exact absurd rfl h
  | cons x r ih =>
    rw [bst_fold]
    split
    · rename_i g; exact List.mem_cons_of_mem _ (ih g.1)
    · simp
def segsD (p : Int → Bool) (a : Int) (xs : List Int) (k : Nat) : List (Int × Int) := ((List.range' k (xs.length - k)).filter (fun i : Nat => decide (¬ (i : Int) = a) && p (xs.getD i 0))).map (fun i : Nat => ((i : Int), xs.getD i 0))
theorem segsD_zero (p : Int → Bool) (a : Int) (xs : List Int) : segsD p a xs 0 = segs p a xs xs.length := by simp [segsD, segs, List.range_eq_range']
theorem segsD_end (p : Int → Bool) (a : Int) (xs : List Int) : segsD p a xs xs.length = [] := by simp [segsD]
theorem segsD_step {p : Int → Bool} {a : Int} {xs : List Int} {k : Nat} (hk : k < xs.length) : segsD p a xs k = if (decide (¬ (k : Int) = a) && p xs[k]) = true then ((k : Int), xs[k]) :: segsD p a xs (k + 1) else segsD p a xs (k + 1) := by
  have e : xs.length - k = (xs.length - (k + 1)) + 1 := by omega
  have hg := getD_eq hk
  simp only [segsD, e, List.range'_succ, List.filter_cons, hg]
  split <;> simp only [List.map_cons, hg]
theorem segsD_mem {p : Int → Bool} {a : Int} {xs : List Int} {k : Nat} {q : Int × Int} (h : q ∈ segsD p a xs k) : ∃ j, ∃ hj : j < xs.length, q = ((j : Int), xs[j]) := by
  simp only [segsD, List.mem_map, List.mem_filter, List.mem_range'_1] at h
  obtain ⟨j, ⟨hj, _⟩, rfl⟩ := h
  exact ⟨j, by omega, by rw [getD_eq]⟩
theorem numb_cons (x : Int × Int) (l : List (Int × Int)) : numb (x :: l) = if l = [] ∨ x.2 ≤ (bst l).2 then x.1 else numb l := by
  simp only [numb, List.length_cons, Nat.zero_lt_succ, if_true, bst_fold]
  cases l with
  | nil => simp
  | cons y r =>
    simp only [ne_eq, reduceCtorEq, not_false_eq_true, true_and, false_or, List.length_cons, Nat.zero_lt_succ, if_true]
    by_cases a : (bst (y :: r)).2 < x.2 <;> simp [a] <;> omega
theorem numb_nil : numb [] = -1 := rfl
/-- The number is that of an element, if there is one. -/
theorem numb_at {p : Int → Bool} {a : Int} {xs : List Int} {k : Nat} (h : segsD p a xs k ≠ []) : ∃ j, ∃ hj : j < xs.length, numb (segsD p a xs k) = (j : Int) ∧ (bst (segsD p a xs k)).2 = xs[j] := by
  obtain ⟨j, hj, e⟩ := segsD_mem (bst_mem _ h)
  refine ⟨j, hj, ?_, by rw [e]⟩
  have : 0 < (segsD p a xs k).length := List.length_pos_iff.2 h
  rw [numb, if_pos this, e]
theorem numb_neg {p : Int → Bool} {a : Int} {xs : List Int} {k : Nat} : numb (segsD p a xs k) < 0 ↔ segsD p a xs k = [] := by
  constructor
  · intro h
    apply Classical.byContradiction
    intro hne
    obtain ⟨j, hj, e, _⟩ := numb_at hne
    omega
  · intro h; rw [h, numb_nil]; omega
theorem segsD_yes {p : Int → Bool} {a : Int} {xs : List Int} {k : Nat} (hk : k < xs.length) (h : decide (¬ (k : Int) = a) = true) (hp : p xs[k] = true) : numb (segsD p a xs k) = if segsD p a xs (k + 1) = [] ∨ xs[k] ≤ (bst (segsD p a xs (k + 1))).2 then (k : Int) else numb (segsD p a xs (k + 1)) := by
  rw [segsD_step hk, if_pos (by rw [h, hp]; rfl), numb_cons]
theorem segsD_no {p : Int → Bool} {a : Int} {xs : List Int} {k : Nat} (hk : k < xs.length) (h : (k : Int) = a ∨ p xs[k] = false) : numb (segsD p a xs k) = numb (segsD p a xs (k + 1)) := by
  rw [segsD_step hk, if_neg (by rcases h with h | h <;> simp [h])]
/-- Of those whose count is nought, the first. -/
theorem numb_free (a : Int) (xs : List Int) : numb (segs (fun c => decide (c = 0)) a xs xs.length) = fseg xs a := by
  rw [← segsD_zero]
  have key : ∀ m k, m + k = xs.length → numb (segsD (fun c => decide (c = 0)) a xs k) = fI ((List.range' k m).find? (isFree xs a)) ∧ (∀ q, q ∈ segsD (fun c => decide (c = 0)) a xs k → q.2 = 0) := by
    intro m
    induction m with
    | zero => intro k hk; obtain rfl : k = xs.length := by omega
              rw [segsD_end]; exact ⟨rfl, by simp⟩
    | succ m ih =>
      intro k hk
      have hlt : k < xs.length := by omega
      obtain ⟨h1, h2⟩ := ih (k + 1) (by omega)
      rw [List.range'_succ, List.find?_cons]
      by_cases hf : isFree xs a k = true
      · have hf' : decide (¬ (k : Int) = a) = true ∧ decide (xs[k] = 0) = true := by
          simp only [isFree, getD_eq hlt, Bool.and_eq_true] at hf; exact ⟨hf.2, hf.1⟩
        rw [hf, segsD_step hlt, if_pos (by rw [hf'.1, hf'.2]; rfl)]
        refine ⟨?_, fun q hq => ?_⟩
        · have hd : segsD (fun c => decide (c = 0)) a xs (k + 1) = [] ∨ xs[k] ≤ (bst (segsD (fun c => decide (c = 0)) a xs (k + 1))).2 := by
            by_cases e : segsD (fun c => decide (c = 0)) a xs (k + 1) = []
            · exact .inl e
            · right; rw [h2 _ (bst_mem _ e)]; exact Int.le_of_eq (of_decide_eq_true hf'.2)
          rw [numb_cons, if_pos hd]; rfl
        · rcases List.mem_cons.1 hq with rfl | hq
          · exact of_decide_eq_true hf'.2
          · exact h2 q hq
      · have hf2 : isFree xs a k = false := by simpa using hf
        have hn : ¬ (decide (¬ (k : Int) = a) && decide (xs[k] = 0)) = true := by
          simp only [isFree, getD_eq hlt, Bool.and_comm] at hf ⊢; exact hf
        rw [hf2, segsD_step hlt, if_neg hn]
        exact ⟨h1, h2⟩
  have := (key xs.length 0 (by omega)).1
  rw [this, fseg, firstI, List.range_eq_range']
end Go.Proofs.YtgpcanjmgdmdhaaDoor
