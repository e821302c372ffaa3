/-
  CONTRACTS 1: the laws' own helpers over rows of whole numbers. No condition.
-/
import Derived.Test.YtgpcanjmgdmdhaaDoorTy
namespace Go.Proofs.YtgpcanjmgdmdhaaDoor
open Go Go.Eng
set_option maxRecDepth 100000
set_option linter.unusedVariables false
abbrev u8 : Kd Int := Kd.int .u8
abbrev i64 : Kd Int := Kd.int .i64
/-- A row of the call's own that is new since w. -/
def New {α : Type} (d : Kd α) (e : TypeId) (w w' : World) (v : Value) (xs : List α) : Prop := ∃ F, d.W e w' F v xs ∧ F.Nodup ∧ ∀ k, k ∈ F → w.heap.size ≤ k
theorem take_succ' {α : Type} {xs ys : List α} {k : Nat} (hx : k < xs.length) (hy : k < ys.length) (h : xs.take k = ys.take k) (e : xs[k] = ys[k]) : xs.take (k + 1) = ys.take (k + 1) := by
  rw [List.take_succ_eq_append_getElem hx, List.take_succ_eq_append_getElem hy, h, e]
theorem set_rep {α : Type} (xs : List α) (z : α) (k : Nat) (hk : k < xs.length) : (xs.take k ++ List.replicate (xs.length - k) z).set k xs[k] = xs.take (k + 1) ++ List.replicate (xs.length - (k + 1)) z := by
  have h1 : (xs.take k).length = k := by rw [List.length_take]; omega
  have h2 : xs.length - k = (xs.length - (k + 1)) + 1 := by omega
  rw [List.set_append_right _ _ (by omega), h1, Nat.sub_self, h2, List.replicate_succ, List.set_cons_zero, List.take_succ_eq_append_getElem hk, List.append_assoc]
  rfl
theorem eqByteS {w : World} {F G : List Nat} {v u : Value} {xs ys : List Int} (hx : u8.R w F v xs) (hy : u8.R w G u ys) (lx : xs.length ≤ 1000000000) :
    Ret Tryd.prog 11 #[v, u] w (fun r w' => r = .bool (decide (xs = ys)) ∧ Ch [] w w') := by
  refine enter Tryd.func11 rfl Tryd.ntmps11 (by rfl) (by rfl) ?_
  refine sq (rg (r (sa rfl) (re (sq (sq (rg (r (mv rfl) (r (ln Tryd.underlying22 rfl (hx)) (r (mv rfl) (r (ln Tryd.underlying22 rfl (hy)) (r (bi rfl rfl rfl) (re ?_))))))))))))
  refine cpn rfl (fun h => ?_) (fun h => ?_)
  · refine sq (rg (r (sa rfl) (re (rt ?_))))
    exact fin1 (v := .bool false) Tryd.results11 rfl ⟨by rw [decide_eq_false (fun e => h (by rw [e]))], Ch.refl _ _⟩
  · have h' : xs.length = ys.length := by omega
    refine sk (sq (sq (rg (r (sa rfl) (re (bl ?_))))))
    refine lp (α := Nat) (fun k ρ w' => ρ 0 = v ∧ ρ 1 = u ∧ ρ 5 = .int .i64 (k : Int) ∧ k ≤ xs.length ∧ xs.take k = ys.take k ∧ Ch [] w w') (fun k => xs.length - k) 0 ?_ ?_
    · exact ⟨rfl, rfl, rfl, ⟨by omega, rfl, Ch.refl _ _⟩⟩
    rintro k ρ w' ⟨y0, y1, y5, hk, ht, hc⟩
    refine sq (sq (rg (r (mv y5) (r (mv y0) (r (ln Tryd.underlying22 rfl (hx.t hc)) (r (bi rfl rfl rfl) (re ?_)))))))
    refine cp rfl (fun hlt => ?_) (fun hlt => ?_)
    · have hlt' : k < xs.length := by omega
      refine sk (sq (bl (sq (rd mixed (by kernel_rfl) (q (mv y0) (q (mv y5) ?_))))))
      obtain ⟨c19, ad19, k19, e19, p19⟩ := (hx.t hc).place k (by omega)
      refine q (ix Tryd.underlying22 ti5 e19 rfl (by omega)) (q (ld Tryd.underlying5 rfl rfl p19.cell) (q (mv y1) (q (mv y5) ?_)))
      obtain ⟨c23, ad23, k23, e23, p23⟩ := (hy.t hc).place k (by omega)
      refine q (ix Tryd.underlying22 ti5 e23 rfl (by omega)) (q (ld Tryd.underlying5 rfl rfl p23.cell) (q (bi rfl rfl rfl) (me ?_)))
      intro w1 c1
      refine cpn rfl (fun hne => ?_) (fun hne => ?_)
      · refine sq (rg (r (sa rfl) (re (rt ?_))))
        exact fin1 (v := .bool false) Tryd.results11 rfl ⟨by rw [decide_eq_false (fun e => hne (by subst e; rfl))], hc.t c1⟩
      · refine sk (be (rg (r (mv y5) (r (ad ((k : Int) + 1) rfl rfl (by omega)) (r (sa rfl) (re ?_))))))
        exact ag (k + 1) ⟨y0, y1, rfl, ⟨by omega, take_succ' hlt' (by omega) ht hne, hc.t c1⟩⟩ (by first | omega | (dsimp only; omega))
    · refine ex rfl (sq (rg (r (sa rfl) (re (rt ?_)))))
      exact fin1 (v := .bool true) Tryd.results11 rfl ⟨by rw [decide_eq_true (by rw [List.take_of_length_le (by omega), List.take_of_length_le (by omega)] at ht; exact ht)], hc⟩
theorem eqInt64S {w : World} {F G : List Nat} {v u : Value} {xs ys : List Int} (hx : i64.R w F v xs) (hy : i64.R w G u ys) (lx : xs.length ≤ 1000000000) :
    Ret Tryd.prog 81 #[v, u] w (fun r w' => r = .bool (decide (xs = ys)) ∧ Ch [] w w') := by
  refine enter Tryd.func81 rfl Tryd.ntmps81 (by rfl) (by rfl) ?_
  refine sq (rg (r (sa rfl) (re (sq (sq (rg (r (mv rfl) (r (ln Tryd.underlying23 rfl (hx)) (r (mv rfl) (r (ln Tryd.underlying23 rfl (hy)) (r (bi rfl rfl rfl) (re ?_))))))))))))
  refine cpn rfl (fun h => ?_) (fun h => ?_)
  · refine sq (rg (r (sa rfl) (re (rt ?_))))
    exact fin1 (v := .bool false) Tryd.results81 rfl ⟨by rw [decide_eq_false (fun e => h (by rw [e]))], Ch.refl _ _⟩
  · have h' : xs.length = ys.length := by omega
    refine sk (sq (sq (rg (r (sa rfl) (re (bl ?_))))))
    refine lp (α := Nat) (fun k ρ w' => ρ 0 = v ∧ ρ 1 = u ∧ ρ 5 = .int .i64 (k : Int) ∧ k ≤ xs.length ∧ xs.take k = ys.take k ∧ Ch [] w w') (fun k => xs.length - k) 0 ?_ ?_
    · exact ⟨rfl, rfl, rfl, ⟨by omega, rfl, Ch.refl _ _⟩⟩
    rintro k ρ w' ⟨y0, y1, y5, hk, ht, hc⟩
    refine sq (sq (rg (r (mv y5) (r (mv y0) (r (ln Tryd.underlying23 rfl (hx.t hc)) (r (bi rfl rfl rfl) (re ?_)))))))
    refine cp rfl (fun hlt => ?_) (fun hlt => ?_)
    · have hlt' : k < xs.length := by omega
      refine sk (sq (bl (sq (rd mixed (by kernel_rfl) (q (mv y0) (q (mv y5) ?_))))))
      obtain ⟨c19, ad19, k19, e19, p19⟩ := (hx.t hc).place k (by omega)
      refine q (ix Tryd.underlying23 ti2 e19 rfl (by omega)) (q (ld Tryd.underlying2 rfl rfl p19.cell) (q (mv y1) (q (mv y5) ?_)))
      obtain ⟨c23, ad23, k23, e23, p23⟩ := (hy.t hc).place k (by omega)
      refine q (ix Tryd.underlying23 ti2 e23 rfl (by omega)) (q (ld Tryd.underlying2 rfl rfl p23.cell) (q (bi rfl rfl rfl) (me ?_)))
      intro w1 c1
      refine cpn rfl (fun hne => ?_) (fun hne => ?_)
      · refine sq (rg (r (sa rfl) (re (rt ?_))))
        exact fin1 (v := .bool false) Tryd.results81 rfl ⟨by rw [decide_eq_false (fun e => hne (by subst e; rfl))], hc.t c1⟩
      · refine sk (be (rg (r (mv y5) (r (ad ((k : Int) + 1) rfl rfl (by omega)) (r (sa rfl) (re ?_))))))
        exact ag (k + 1) ⟨y0, y1, rfl, ⟨by omega, take_succ' hlt' (by omega) ht hne, hc.t c1⟩⟩ (by first | omega | (dsimp only; omega))
    · refine ex rfl (sq (rg (r (sa rfl) (re (rt ?_)))))
      exact fin1 (v := .bool true) Tryd.results81 rfl ⟨by rw [decide_eq_true (by rw [List.take_of_length_le (by omega), List.take_of_length_le (by omega)] at ht; exact ht)], hc⟩
theorem toByteS {w : World} {F : List Nat} {v : Value} {xs : List Int} (hx : u8.R w F v xs) (lx : xs.length ≤ 1000000000) :
    Ret Tryd.prog 8 #[v] w (fun r w' => New u8 5 w w' r xs ∧ Ch [] w w') := by
  refine enter Tryd.func8 rfl Tryd.ntmps8 (by rfl) (by rfl) ?_
  refine sq (rg (r (sa rfl) (re (sq (rg (r (mv rfl) (r (ln Tryd.underlying22 rfl (hx)) (mk (dk := u8) 0 Tryd.underlying22 ti5 (fun _ => ⟨rfl, rfl⟩) rfl rfl (by omega) ?_))))))))
  intro vm wm Fm Wm nm fm cm
  refine r (sa rfl) (re (sq (sq (rg (r (sa rfl) (re (bl ?_)))))))
  refine lp (α := Nat × List Nat) (fun (k, F) ρ w' => ρ 0 = v ∧ ρ 3 = vm ∧ ρ 4 = .int .i64 (k : Int) ∧ k ≤ xs.length ∧ u8.W 5 w' F vm (xs.take k ++ List.replicate (xs.length - k) 0) ∧ F.Nodup ∧ (∀ j, j ∈ F → w.heap.size ≤ j) ∧ Ch [] w w') (fun (k, F) => xs.length - k) (0, Fm) ?_ ?_
  · exact ⟨rfl, rfl, rfl, ⟨by omega, Wm, nm, fm, cm⟩⟩
  rintro ⟨k, F⟩ ρ w' ⟨y0, y3, y4, hk, hW, hn, hf, hc⟩
  refine sq (sq (rg (r (mv y4) (r (mv y0) (r (ln Tryd.underlying22 rfl (hx.t hc)) (r (bi rfl rfl rfl) (re ?_)))))))
  refine cp rfl (fun hlt => ?_) (fun hlt => ?_)
  · have hlt' : k < xs.length := by omega
    have hl : (xs.take k ++ List.replicate (xs.length - k) (0 : Int)).length = xs.length := by simp; omega
    refine sk (sq (bl (rg (r (mv y3) (r (mv y4) (r (mv y0) (r (mv y4) ?_)))))))
    obtain ⟨c18, ad18, k18, e18, p18⟩ := (hx.t hc).place k (by omega)
    refine r (ix Tryd.underlying22 ti5 e18 rfl (by omega)) (r (ld Tryd.underlying5 rfl rfl p18.cell) (ixs (a := xs[k]) Tryd.underlying22 ti5 rfl (j := k) hW rfl (by rw [hl]; exact hlt') (fun _ => rfl) ⟨rfl, rfl⟩ (by simpa using hn) ?_))
    intro _ ws Fs ss As
    refine re (be (rg (r (mv y4) (r (ad ((k : Int) + 1) rfl rfl (by omega)) (r (sa rfl) (re ?_))))))
    exact ag (k + 1, Fs) ⟨y0, y3, rfl, ⟨by omega, by have := As.W; rwa [set_rep xs 0 k hlt'] at this, As.nd, fun j hj => (As.sub j hj).elim (hf j) (fun h => h.elim (fun h => by cases h) (fun h => Nat.le_trans hc.size h)), hc.trans As.ch (fun j hj hlt => absurd (hf j (W_own hW j hj)) (by omega))⟩⟩ (by first | omega | (dsimp only; omega))
  · have e : k = xs.length := by omega
    subst e
    refine ex rfl (sq (rg (r (mv y3) (r (sa rfl) (re (rt ?_))))))
    exact fin1 (v := vm) Tryd.results8 rfl ⟨⟨F, (by simpa using hW), hn, hf⟩, hc⟩
end Go.Proofs.YtgpcanjmgdmdhaaDoor
