/-
  CONTRACTS 15: counts of segments. No condition.
-/
import Derived.Test.YtgpcanjmgdmdhaaDoor14
import Derived.Test.YtgpcanjmgdmdhaaDoorMore
namespace Go.Proofs.YtgpcanjmgdmdhaaDoor
open Go Go.Eng
set_option maxRecDepth 100000
set_option maxHeartbeats 4000000
set_option linter.unusedVariables false
/-- How many entries lie in segment j of the log that begins at L, of segments of b blocks. -/
def inSeg (L b : Int) (j : Nat) (x : Int × Bool) : Bool := decide (L + (j : Int) * b ≤ x.1 ∧ x.1 < L + (j : Int) * b + b)
def cnt (L b : Int) (j : Nat) (xs : List (Int × Bool)) : Int := ((xs.filter (inSeg L b j)).length : Int)
def segc (L b : Int) (n : Nat) (xs : List (Int × Bool)) : List Int := (List.range n).map (fun j => cnt L b j xs)
def segCounts (xs : List (Int × Bool)) (s b : Int) : List Int := if geo s b then segc (logs s b) b s.toNat xs else []
theorem cnt_succ {L b : Int} {j : Nat} {xs : List (Int × Bool)} {k : Nat} (hk : k < xs.length) : cnt L b j (xs.take (k + 1)) = cnt L b j (xs.take k) + (if inSeg L b j xs[k] = true then 1 else 0) := by
  rw [List.take_succ_eq_append_getElem hk]
  simp only [cnt, List.filter_append, List.length_append, List.filter_cons, List.filter_nil]
  split <;> simp
theorem cnt_le {L b : Int} {j : Nat} {xs : List (Int × Bool)} : 0 ≤ cnt L b j xs ∧ cnt L b j xs ≤ xs.length := by
  have := List.length_filter_le (inSeg L b j) xs
  simp only [cnt]; omega
theorem segc_len (L b : Int) (n : Nat) (xs : List (Int × Bool)) : (segc L b n xs).length = n := by simp [segc]
theorem segc_succ (L b : Int) (n : Nat) (xs : List (Int × Bool)) : segc L b (n + 1) xs = segc L b n xs ++ [cnt L b n xs] := by simp [segc, List.range_succ]
theorem segc_nil (L b : Int) (n : Nat) : segc L b n [] = List.replicate n 0 := by
  simp only [segc, cnt, List.filter_nil, List.length_nil]
  induction n with
  | zero => rfl
  | succ n ih => rw [List.range_succ, List.map_append, ih, List.replicate_succ']; rfl
/-- An entry in the log lies in just one segment. -/
theorem inSeg_iff {L b a : Int} {j : Nat} {x : Int × Bool} (hb : 0 < b) (hx : L ≤ x.1) (ha : (x.1 - L) / b = a) : inSeg L b j x = decide ((j : Int) = a) := by
  unfold inSeg
  apply decide_eq_decide.2
  subst ha
  have h1 := Int.mul_ediv_add_emod (x.1 - L) b
  have h2 := Int.emod_nonneg (x.1 - L) (show b ≠ 0 by omega)
  have h3 := Int.emod_lt_of_pos (x.1 - L) hb
  constructor
  · rintro ⟨g1, g2⟩
    have : (x.1 - L) / b = (j : Int) := by
      rw [show x.1 - L = (x.1 - L - (j : Int) * b) + (j : Int) * b by omega, Int.add_mul_ediv_right _ _ (by omega), Int.ediv_eq_zero_of_lt (by omega) (by omega)]
      omega
    omega
  · intro e
    rw [← e] at h1
    rw [Int.mul_comm] at h1
    omega
theorem inSeg_out {L b : Int} {j n : Nat} {x : Int × Bool} (hb : 0 < b) (hj : j < n) (hx : ¬ (L ≤ x.1 ∧ x.1 < L + (n : Int) * b)) : inSeg L b j x = false := by
  unfold inSeg
  apply decide_eq_false
  rintro ⟨g1, g2⟩
  have h1 : 0 ≤ (j : Int) * b := Int.mul_nonneg (by omega) (by omega)
  have h2 : ((j : Int) + 1) * b ≤ (n : Int) * b := Int.mul_le_mul_of_nonneg_right (by omega) (by omega)
  rw [Int.add_mul, Int.one_mul] at h2
  exact hx ⟨by omega, by omega⟩
theorem segc_out {L b : Int} {n : Nat} {xs : List (Int × Bool)} {k : Nat} (hk : k < xs.length) (hb : 0 < b) (hx : ¬ (L ≤ xs[k].1 ∧ xs[k].1 < L + (n : Int) * b)) : segc L b n (xs.take (k + 1)) = segc L b n (xs.take k) := by
  apply List.map_congr_left
  intro j hj
  rw [cnt_succ hk, inSeg_out hb (List.mem_range.1 hj) hx]
  simp
theorem segc_in {L b : Int} {n q : Nat} {xs : List (Int × Bool)} {k : Nat} (hk : k < xs.length) (hb : 0 < b) (hx : L ≤ xs[k].1) (hq : (xs[k].1 - L) / b = (q : Int)) (hqn : q < n) : (segc L b n (xs.take k)).set q (cnt L b q (xs.take k) + 1) = segc L b n (xs.take (k + 1)) := by
  apply List.ext_getElem
  · simp [segc]
  · intro j h1 h2
    rw [List.getElem_set]
    simp only [segc, List.getElem_map, List.getElem_range]
    rw [cnt_succ hk, inSeg_iff hb hx hq]
    by_cases e : q = j
    · subst e; simp
    · simp [e, show ¬ (j : Int) = (q : Int) by omega]
end Go.Proofs.YtgpcanjmgdmdhaaDoor
