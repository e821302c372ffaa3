/-
  CONTRACTS 13: disks as arguments: sizes, copies; ValidDisk. No condition.
-/
import Derived.Test.YtgpcanjmgdmdhaaDoor12
namespace Go.Proofs.YtgpcanjmgdmdhaaDoor
open Go Go.Eng
set_option maxRecDepth 100000
set_option maxHeartbeats 4000000
set_option linter.unusedVariables false
/-- A count that is left, or -1. -/
def lft (m : Int) (n : Nat) : Int := if m < n then -1 else m - n
/-- What writes ask for, all told. -/
def askW : List (Int × List Int) → Nat
  | [] => 0
  | x :: xs => x.2.length + askW xs
theorem askW_take {xs : List (Int × List Int)} {k : Nat} (hk : k < xs.length) : askW (xs.take (k + 1)) = askW (xs.take k) + xs[k].2.length := by
  induction xs generalizing k with
  | nil => simp at hk
  | cons x xs ih =>
    cases k with
    | zero => simp [askW]
    | succ k => simp only [List.take_succ_cons, askW, List.getElem_cons_succ]; rw [ih (by simpa using hk)]; omega
theorem askW_le {xs : List (Int × List Int)} (k : Nat) : askW (xs.take k) ≤ askW xs := by
  induction xs generalizing k with
  | nil => simp [askW]
  | cons x xs ih =>
    cases k with
    | zero => simp [askW]
    | succ k => simp only [List.take_succ_cons, askW]; have := ih k; omega
theorem askW_mem {xs : List (Int × List Int)} : ∀ x, x ∈ xs → x.2.length ≤ askW xs := by
  induction xs with
  | nil => simp
  | cons x xs ih =>
    intro y hy
    simp only [askW]
    rcases List.mem_cons.1 hy with rfl | hy
    · omega
    · have := ih y hy; omega
theorem szW_ask (xs : List (Int × List Int)) : szW xs = xs.length + askW xs := by
  induction xs with
  | nil => rfl
  | cons x xs ih => simp only [szW, askW, List.length_cons, ih]; omega
/-- A disk's blocks; a write that is good; a disk that is good. -/
def blks (xs : List Int) : Int := (xs.length : Int) / 64
abbrev wok (n : Int) (x : Int × List Int) : Prop := 0 ≤ x.1 ∧ x.1 < n ∧ x.2.length = 64
def vdisk (xs : List Int) (ps : List (Int × List Int)) : Bool := decide ((xs.length : Int) % 64 = 0 ∧ 1 ≤ blks xs ∧ blks xs ≤ 1200 ∧ ps.length ≤ 400) && ps.all (fun x => decide (wok (blks xs) x))
theorem vdisk_head {xs : List Int} {ps : List (Int × List Int)} (h : ¬ ((xs.length : Int) % 64 = 0 ∧ 1 ≤ blks xs ∧ blks xs ≤ 1200 ∧ ps.length ≤ 400)) : vdisk xs ps = false := by rw [vdisk, decide_eq_false h]; rfl
theorem vdisk_bad {xs : List Int} {ps : List (Int × List Int)} {k : Nat} (hk : k < ps.length) (h : ¬ wok (blks xs) ps[k]) : vdisk xs ps = false := by
  rw [vdisk]
  have : ps.all (fun x => decide (wok (blks xs) x)) = false := by
    rw [List.all_eq_false]
    exact ⟨_, List.getElem_mem hk, by simpa using h⟩
  rw [this, Bool.and_false]
theorem vdisk_good {xs : List Int} {ps : List (Int × List Int)} (h : (xs.length : Int) % 64 = 0 ∧ 1 ≤ blks xs ∧ blks xs ≤ 1200 ∧ ps.length ≤ 400) (hw : ∀ x, x ∈ ps → wok (blks xs) x) : vdisk xs ps = true := by
  rw [vdisk, decide_eq_true h, Bool.true_and, List.all_eq_true]
  exact fun x hx => decide_eq_true (hw x hx)
theorem wok_take {n : Int} {ps : List (Int × List Int)} {k : Nat} (hk : k < ps.length) (h : ∀ x, x ∈ ps.take k → wok n x) (h' : wok n ps[k]) : ∀ x, x ∈ ps.take (k + 1) → wok n x := by
  rw [List.take_succ_eq_append_getElem hk]
  intro x hx
  rcases List.mem_append.1 hx with hx | hx
  · exact h x hx
  · rw [List.mem_singleton.1 hx]; exact h'
end Go.Proofs.YtgpcanjmgdmdhaaDoor
