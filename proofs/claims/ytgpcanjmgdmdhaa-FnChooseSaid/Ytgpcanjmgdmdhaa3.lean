/-
  CONTRACTS 3: the reference's PickVictim; what both answer is the same. No condition.
-/
import Derived.Test.Ytgpcanjmgdmdhaa2
namespace Go.Proofs.Ytgpcanjmgdmdhaa
open Go Go.Eng
set_option maxRecDepth 100000
set_option linter.unusedVariables false
theorem bst_fold (r : List (Int × Int)) : ∀ x, bst (x :: r) = if r ≠ [] ∧ (bst r).2 < x.2 then bst r else x := by
  induction r with
  | nil => intro x; simp [bst]
  | cons y r ih =>
    intro x
    have h1 : bst (x :: y :: r) = bst ((if y.2 < x.2 then y else x) :: r) := rfl
    rw [h1, ih, ih y]
    by_cases e : r = []
    · subst e; simp
    · simp only [ne_eq, e, not_false_eq_true, true_and, reduceCtorEq]
      by_cases a : y.2 < x.2 <;> by_cases b : (bst r).2 < y.2 <;> by_cases c : (bst r).2 < x.2 <;> simp [a, b, c] <;> omega
theorem bst_mem (l : List (Int × Int)) (h : l ≠ []) : bst l ∈ l := by
  induction l with
  | nil => exact absurd rfl h
  | cons x r ih =>
    rw [bst_fold]
    split
    · rename_i g; exact List.mem_cons_of_mem _ (ih g.1)
    · simp
def segsD (p : Int → Bool) (a : Int) (xs : List Int) (k : Nat) : List (Int × Int) := ((List.range' k (xs.length - k)).filter (fun i : Nat => decide (¬ (i : Int) = a) && p (xs.getD i 0))).map (fun i : Nat => ((i : Int), xs.getD i 0))
theorem segsD_zero (p : Int → Bool) (a : Int) (xs : List Int) : segsD p a xs 0 = segs p a xs xs.length := by simp [segsD, segs, List.range_eq_range']
theorem segsD_end (p : Int → Bool) (a : Int) (xs : List Int) : segsD p a xs xs.length = [] := by simp [segsD]
theorem segsD_step {p : Int → Bool} {a : Int} {xs : List Int} {k : Nat} (hk : k < xs.length) : segsD p a xs k = if (decide (¬ (k : Int) = a) && p xs[k]) = true then ((k : Int), xs[k]) :: segsD p a xs (k + 1) else segsD p a xs (k + 1) := by
  have e : xs.length - k = (xs.length - (k + 1)) + 1 := by omega
  have hg := getD_eq hk
  simp only [segsD, e, List.range'_succ, List.filter_cons, hg]
  split <;> simp only [List.map_cons, hg]
theorem segsD_mem {p : Int → Bool} {a : Int} {xs : List Int} {k : Nat} {q : Int × Int} (h : q ∈ segsD p a xs k) : ∃ j, ∃ hj : j < xs.length, q = ((j : Int), xs[j]) := by
  simp only [segsD, List.mem_map, List.mem_filter, List.mem_range'_1] at h
  obtain ⟨j, ⟨hj, _⟩, rfl⟩ := h
  exact ⟨j, by omega, by rw [getD_eq]⟩
theorem numb_cons (x : Int × Int) (l : List (Int × Int)) : numb (x :: l) = if l = [] ∨ x.2 ≤ (bst l).2 then x.1 else numb l := by
  simp only [numb, List.length_cons, Nat.zero_lt_succ, if_true, bst_fold]
  cases l with
  | nil => simp
  | cons y r =>
    simp only [ne_eq, reduceCtorEq, not_false_eq_true, true_and, false_or, List.length_cons, Nat.zero_lt_succ, if_true]
    by_cases a : (bst (y :: r)).2 < x.2 <;> simp [a] <;> omega
theorem numb_nil : numb [] = -1 := rfl
/-- The number is that of an element, if there is one. -/
theorem numb_at {p : Int → Bool} {a : Int} {xs : List Int} {k : Nat} (h : segsD p a xs k ≠ []) : ∃ j, ∃ hj : j < xs.length, numb (segsD p a xs k) = (j : Int) ∧ (bst (segsD p a xs k)).2 = xs[j] := by
  obtain ⟨j, hj, e⟩ := segsD_mem (bst_mem _ h)
  refine ⟨j, hj, ?_, by rw [e]⟩
  have : 0 < (segsD p a xs k).length := List.length_pos_iff.2 h
  rw [numb, if_pos this, e]
theorem numb_neg {p : Int → Bool} {a : Int} {xs : List Int} {k : Nat} : numb (segsD p a xs k) < 0 ↔ segsD p a xs k = [] := by
  constructor
  · intro h
    apply Classical.byContradiction
    intro hne
    obtain ⟨j, hj, e, _⟩ := numb_at hne
    omega
  · intro h; rw [h, numb_nil]; omega
theorem segsD_yes {p : Int → Bool} {a : Int} {xs : List Int} {k : Nat} (hk : k < xs.length) (h : decide (¬ (k : Int) = a) = true) (hp : p xs[k] = true) : numb (segsD p a xs k) = if segsD p a xs (k + 1) = [] ∨ xs[k] ≤ (bst (segsD p a xs (k + 1))).2 then (k : Int) else numb (segsD p a xs (k + 1)) := by
  rw [segsD_step hk, if_pos (by rw [h, hp]; rfl), numb_cons]
theorem segsD_no {p : Int → Bool} {a : Int} {xs : List Int} {k : Nat} (hk : k < xs.length) (h : (k : Int) = a ∨ p xs[k] = false) : numb (segsD p a xs k) = numb (segsD p a xs (k + 1)) := by
  rw [segsD_step hk, if_neg (by rcases h with h | h <;> simp [h])]
theorem spec_PickVictim {w : World} {F : List Nat} {v : Value} {xs : List Int} {a m : Int} (hx : i64.R w F v xs) (lx : xs.length ≤ 1000000000) :
    Ret Try.prog 27 #[v, .int .i64 a, .int .i64 m] w (fun r w' => r = .int .i64 (numb (segs (inside m) a xs xs.length)) ∧ Ch [] w w') := by
  refine enter Try.func27 rfl Try.ntmps27 (by rfl) (by rfl) ?_
  refine sq (rg (r (sa rfl) (re (sq (rg (r (sa rfl) (re (sq (sq (rg (r (mv rfl) (r (ln Try.underlying22 rfl (hx)) (r (sb ((xs.length : Int) - 1) rfl rfl (by omega)) (r (sa rfl) (re (bl ?_))))))))))))))))
  refine lp (α := Nat) (fun k ρ w' => ρ 0 = v ∧ ρ 1 = .int .i64 a ∧ ρ 2 = .int .i64 m ∧ ρ 7 = .int .i64 (numb (segsD (inside m) a xs k)) ∧ ρ 8 = .int .i64 ((k : Int) - 1) ∧ k ≤ xs.length ∧ Ch [] w w') (fun k => k) xs.length ?_ ?_
  · exact ⟨rfl, rfl, rfl, by rw [segsD_end]; rfl, rfl, ⟨Nat.le_refl _, Ch.refl _ _⟩⟩
  rintro k ρ w' ⟨y0, y1, y2, y7, y8, hk, hc⟩
  refine sq (sq (rg (r (mv y8) (r (bi rfl rfl rfl) (re ?_)))))
  refine cp rfl (fun hge => ?_) (fun hge => ?_)
  · obtain ⟨i, rfl⟩ : ∃ i, k = i + 1 := ⟨k - 1, by omega⟩
    rw [show ((i + 1 : Nat) : Int) - 1 = (i : Int) from by omega] at y8
    have hi : i < xs.length := by omega
    have hc2 := hc
    refine sk (sq (bl (sq (rd mixed (by kernel_rfl) (q (mv y8) (q (mv y1) (q (bi rfl rfl rfl) (q (mv rfl) ?_))))))))
    refine spnq 19 rfl (fun h0 => ?_) (fun h0 => ?_)
    · refine gyq rfl rfl rfl (q (mv y0) (gyq rfl rfl rfl (q (mv y8) (gyq rfl rfl rfl ?_))))
      obtain ⟨c22, ad22, k22, e22, p22⟩ := (hx.t hc).place i (by omega)
      refine q (ix Try.underlying22 ti2 e22 rfl (by omega)) (gyq rfl rfl rfl (q (ld Try.underlying2 rfl rfl p22.cell) (gyq rfl rfl rfl (q (bi rfl rfl rfl) (q (pk rfl rfl) (q (mv rfl) ?_))))))
      refine spq 26 rfl (fun h1 => ?_) (fun h1 => ?_)
      · refine gyq rfl rfl rfl (q (mv y0) (gyq rfl rfl rfl (q (mv y8) (gyq rfl rfl rfl ?_))))
        obtain ⟨c29, ad29, k29, e29, p29⟩ := (hx.t hc).place i (by omega)
        refine q (ix Try.underlying22 ti2 e29 rfl (by omega)) (gyq rfl rfl rfl (q (ld Try.underlying2 rfl rfl p29.cell) (gyq rfl rfl rfl (q (mv y2) (gyq rfl rfl rfl (q (bi rfl rfl rfl) (q (pk rfl rfl) (q (mv rfl) ?_))))))))
        refine spq 34 rfl (fun h2 => ?_) (fun h2 => ?_)
        · have hy := segsD_yes hi (p := inside m) (a := a) (by simpa using h0) (by rw [inside, decide_eq_true h1, decide_eq_true h2]; rfl)
          refine gyq rfl rfl rfl (q (mv y7) (gyq rfl rfl rfl (q (bi rfl rfl rfl) (gyq rfl rfl rfl (q (mv rfl) ?_)))))
          refine spq 37 rfl (fun h3 => ?_) (fun h3 => ?_)
          · rw [if_pos (.inl (numb_neg.1 h3))] at hy
            refine gnq rfl rfl rfl (gnq rfl rfl rfl (gnq rfl rfl rfl (gnq rfl rfl rfl (gnq rfl rfl rfl (gnq rfl rfl rfl (gnq rfl rfl rfl (gnq rfl rfl rfl (gnq rfl rfl rfl (gyq rfl rfl rfl (q (pk rfl rfl) (q (pk rfl rfl) (me ?_))))))))))))
            intro w1 c1
            refine ct rfl (rg (r (mv y8) (r (sa rfl) (re (be (rg (r (mv y8) ?_)))))))
            refine r (sb ((i : Int) - 1) rfl rfl (by omega)) (r (sa rfl) (re ?_))
            refine ag i ⟨y0, y1, y2, by rw [hy]; rfl, rfl, by omega, hc.t c1⟩ (by omega)
          · obtain ⟨j, hj, ej, eb⟩ := numb_at (fun e => h3 (numb_neg.2 e))
            rw [eb] at hy
            rw [ej] at y7
            refine gyq rfl rfl rfl (q (mv y0) (gyq rfl rfl rfl (q (mv y8) (gyq rfl rfl rfl ?_))))
            obtain ⟨c40, ad40, k40, e40, p40⟩ := (hx.t hc).place i (by omega)
            refine q (ix Try.underlying22 ti2 e40 rfl (by omega)) (gyq rfl rfl rfl (q (ld Try.underlying2 rfl rfl p40.cell) (gyq rfl rfl rfl (q (mv y0) (gyq rfl rfl rfl (q (mv y7) (gyq rfl rfl rfl ?_)))))))
            obtain ⟨c44, ad44, k44, e44, p44⟩ := (hx.t hc).place j (by omega)
            refine q (ix Try.underlying22 ti2 e44 rfl (by omega)) (gyq rfl rfl rfl (q (ld Try.underlying2 rfl rfl p44.cell) (gyq rfl rfl rfl (q (bi rfl rfl rfl) (gyq rfl rfl rfl (q (pk rfl rfl) (q (pk rfl rfl) (me ?_))))))))
            intro w1 c1
            refine cp rfl (fun h4 => ?_) (fun h4 => ?_)
            · rw [if_pos (.inr h4)] at hy
              refine rg (r (mv y8) (r (sa rfl) (re (be (rg (r (mv y8) (r (sb ((i : Int) - 1) rfl rfl (by omega)) (r (sa rfl) (re ?_)))))))))
              refine ag i ⟨y0, y1, y2, by rw [hy]; rfl, rfl, by omega, hc.t c1⟩ (by omega)
            · rw [if_neg (fun e => e.elim (fun e => h3 (numb_neg.2 e)) h4), ej] at hy
              refine sk (be (rg (r (mv y8) (r (sb ((i : Int) - 1) rfl rfl (by omega)) (r (sa rfl) (re ?_))))))
              refine ag i ⟨y0, y1, y2, by rw [hy]; exact y7, rfl, by omega, hc.t c1⟩ (by omega)
        · refine gnq rfl rfl rfl (gnq rfl rfl rfl (gnq rfl rfl rfl (guq rfl rfl rfl (guq rfl rfl rfl (guq rfl rfl rfl (guq rfl rfl rfl (guq rfl rfl rfl (guq rfl rfl rfl (guq rfl rfl rfl (guq rfl rfl rfl (guq rfl rfl rfl (gnq rfl rfl rfl (q (pk rfl rfl) (me ?_))))))))))))))
          intro w1 c1
          refine cf rfl (sk (be (rg (r (mv y8) ?_))))
          refine r (sb ((i : Int) - 1) rfl rfl (by omega)) (r (sa rfl) (re ?_))
          refine ag i ⟨y0, y1, y2, y7.trans (by rw [segsD_no hi (.inr (by simp [inside, h2]))]), rfl, by omega, hc.t c1⟩ (by omega)
      · refine gnq rfl rfl rfl (gnq rfl rfl rfl (gnq rfl rfl rfl (gnq rfl rfl rfl (gnq rfl rfl rfl (gnq rfl rfl rfl (q (pk rfl rfl) (q (mv rfl) (gnq rfl rfl rfl (gnq rfl rfl rfl (gnq rfl rfl rfl (guq rfl rfl rfl (guq rfl rfl rfl (guq rfl rfl rfl (guq rfl rfl rfl (guq rfl rfl rfl (guq rfl rfl rfl (guq rfl rfl rfl (guq rfl rfl rfl (guq rfl rfl rfl (gnq rfl rfl rfl (q (pk rfl rfl) (me ?_))))))))))))))))))))))
        intro w1 c1
        refine cf rfl (sk (be (rg (r (mv y8) ?_))))
        refine r (sb ((i : Int) - 1) rfl rfl (by omega)) (r (sa rfl) (re ?_))
        refine ag i ⟨y0, y1, y2, y7.trans (by rw [segsD_no hi (.inr (by simp [inside, h1]))]), rfl, by omega, hc.t c1⟩ (by omega)
    · refine gnq rfl rfl rfl (gnq rfl rfl rfl (gnq rfl rfl rfl (gnq rfl rfl rfl (gnq rfl rfl rfl (q (pk rfl rfl) (q (mv rfl) (gnq rfl rfl rfl (gnq rfl rfl rfl (gnq rfl rfl rfl (gnq rfl rfl rfl (gnq rfl rfl rfl (gnq rfl rfl rfl (q (pk rfl rfl) (q (mv rfl) (gnq rfl rfl rfl (gnq rfl rfl rfl (gnq rfl rfl rfl (guq rfl rfl rfl (guq rfl rfl rfl (guq rfl rfl rfl (guq rfl rfl rfl (guq rfl rfl rfl (guq rfl rfl rfl (guq rfl rfl rfl (guq rfl rfl rfl (guq rfl rfl rfl (gnq rfl rfl rfl (q (pk rfl rfl) (me ?_)))))))))))))))))))))))))))))
      intro w1 c1
      refine cf rfl (sk (be (rg (r (mv y8) ?_))))
      refine r (sb ((i : Int) - 1) rfl rfl (by omega)) (r (sa rfl) (re ?_))
      refine ag i ⟨y0, y1, y2, y7.trans (by rw [segsD_no hi (.inl h0)]), rfl, by omega, hc.t c1⟩ (by omega)
  · obtain rfl : k = 0 := by omega
    rw [segsD_zero] at y7
    refine ex rfl (sq (rg (r (mv y7) (r (sa rfl) (re (rt ?_))))))
    exact fin1 (v := .int .i64 (numb (segs (inside m) a xs xs.length))) Try.results27 rfl ⟨rfl, hc⟩
/-- Of those whose count is nought, the first. -/
theorem numb_free (a : Int) (xs : List Int) : numb (segs (fun c => decide (c = 0)) a xs xs.length) = fseg xs a := by
  rw [← segsD_zero]
  have key : ∀ m k, m + k = xs.length → numb (segsD (fun c => decide (c = 0)) a xs k) = fI ((List.range' k m).find? (isFree xs a)) ∧ (∀ q, q ∈ segsD (fun c => decide (c = 0)) a xs k → q.2 = 0) := by
    intro m
    induction m with
    | zero => intro k hk; obtain rfl : k = xs.length := by omega
              rw [segsD_end]; exact ⟨rfl, by simp⟩
    | succ m ih =>
      intro k hk
      have hlt : k < xs.length := by omega
      obtain ⟨h1, h2⟩ := ih (k + 1) (by omega)
      rw [List.range'_succ, List.find?_cons]
      by_cases hf : isFree xs a k = true
      · have hf' : decide (¬ (k : Int) = a) = true ∧ decide (xs[k] = 0) = true := by
          simp only [isFree, getD_eq hlt, Bool.and_eq_true] at hf; exact ⟨hf.2, hf.1⟩
        rw [hf, segsD_step hlt, if_pos (by rw [hf'.1, hf'.2]; rfl)]
        refine ⟨?_, fun q hq => ?_⟩
        · have hd : segsD (fun c => decide (c = 0)) a xs (k + 1) = [] ∨ xs[k] ≤ (bst (segsD (fun c => decide (c = 0)) a xs (k + 1))).2 := by
            by_cases e : segsD (fun c => decide (c = 0)) a xs (k + 1) = []
            · exact .inl e
            · right; rw [h2 _ (bst_mem _ e)]; exact Int.le_of_eq (of_decide_eq_true hf'.2)
          rw [numb_cons, if_pos hd]; rfl
        · rcases List.mem_cons.1 hq with rfl | hq
          · exact of_decide_eq_true hf'.2
          · exact h2 q hq
      · have hf2 : isFree xs a k = false := by simpa using hf
        have hn : ¬ (decide (¬ (k : Int) = a) && decide (xs[k] = 0)) = true := by
          simp only [isFree, getD_eq hlt, Bool.and_comm] at hf ⊢; exact hf
        rw [hf2, segsD_step hlt, if_neg hn]
        exact ⟨h1, h2⟩
  have := (key xs.length 0 (by omega)).1
  rw [this, fseg, firstI, List.range_eq_range']
end Go.Proofs.Ytgpcanjmgdmdhaa
