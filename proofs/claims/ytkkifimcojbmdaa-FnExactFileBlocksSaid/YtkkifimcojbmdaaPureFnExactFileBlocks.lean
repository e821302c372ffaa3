/-
  FnExactFileBlocks: for every whole number the program's FileBlocks gives what the reference's gives: the law returns true. No condition.
-/
import Derived.Test.YtkkifimcojbmdaaPFnExactFileBlocksx1
namespace Go.Proofs.Ytkkifimcojbmdaa.Pure
open Go.RowKit Go.Proofs.Ytkkifimcojbmdaa.PFnExactFileBlocks Go.Proofs.YtkkifimcojbmdaaW.PrintWords Go.Proofs.YtkkifimcojbmdaaW.PrintLast

theorem blocks_tell (x : Int) (h0 : 0 ≤ x) (h1 : x ≤ 1408) (d : Nat) : ∀ (k : Nat) (n : Int), 0 ≤ n → n ≤ (x + 63) / 64 → (x + 63) / 64 - n = d → d < k →
    spec_l2Blocks.l0 k x n = some ((x + 63) / 64) := by
  induction d with
  | zero =>
    intro k n hn0 hn1 hd hk
    obtain ⟨k, rfl⟩ : ∃ m, k = m + 1 := ⟨k - 1, by omega⟩
    have e : wrap64 (n * 64) = n * 64 := by unfold wrap64; omega
    simp only [spec_l2Blocks.l0]
    rw [e, if_neg (by omega)]
    congr 1
    omega
  | succ d ih =>
    intro k n hn0 hn1 hd hk
    obtain ⟨k, rfl⟩ : ∃ m, k = m + 1 := ⟨k - 1, by omega⟩
    have e : wrap64 (n * 64) = n * 64 := by unfold wrap64; omega
    have e1 : wrap64 (n + 1) = n + 1 := by unfold wrap64; omega
    simp only [spec_l2Blocks.l0]
    rw [e, if_pos (by omega), e1]
    exact ih k (n + 1) (by omega) (by omega) (by omega) (by omega)

theorem FnExactFileBlocks : laws_FnExactFileBlocks.Pure := by
  intro x hx
  refine ⟨100, ?_⟩
  unfold laws_FnExactFileBlocks.f spec_FileBlocks.f impl_FileBlocks.f
  by_cases c1 : x < 0
  · rw [if_pos c1, if_pos c1]; rfl
  · rw [if_neg c1, if_neg c1]
    by_cases c2 : x > 1408
    · rw [if_pos c2, if_pos c2]; rfl
    · rw [if_neg c2, if_neg c2]
      have hs : spec_l2Blocks.f 100 x = some ((x + 63) / 64) := blocks_tell x (by omega) (by omega) ((x + 63) / 64).toNat 100 0 (by omega) (by omega) (by omega) (by omega)
      have hi : impl_dataBlocks.f x = some ((x + 63) / 64) := by
        unfold impl_dataBlocks.f
        have e1 : wrap64 (x + 64) = x + 64 := by unfold wrap64; omega
        have e2 : wrap64 (x + 64 - 1) = x + 63 := by unfold wrap64; omega
        rw [e1, e2, Int.tdiv_eq_ediv_of_nonneg (by omega)]
        congr 1
        unfold wrap64
        omega
      rw [hs, hi]
      simp

end Go.Proofs.Ytkkifimcojbmdaa.Pure
