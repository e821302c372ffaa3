/-
  FnExactValidName: for every text the program's ValidName gives what the reference's gives: the law returns true. No condition.
-/
import Derived.Test.YtkkifimcojbmdaaPFnExactValidNamex1
namespace Go.Proofs.Ytkkifimcojbmdaa.Pure
open Go.RowKit Go.Proofs.Ytkkifimcojbmdaa.PFnExactValidName Go.Proofs.YtkkifimcojbmdaaW.PrintWords Go.Proofs.YtkkifimcojbmdaaW.PrintLast

theorem names_agree (s : ByteArray) (hs : s.size ≤ 1048576) (d : Nat) : ∀ (k : Nat) (i : Int), 0 ≤ i → i ≤ s.size → (s.size : Int) - i = d → d < k →
    ∃ r, spec_ValidName.l0 k s i = some r ∧ impl_ValidName.l0 k s (s.size : Int) i = some r := by
  induction d with
  | zero =>
    intro k i h0 h1 hd hk
    obtain ⟨k, rfl⟩ : ∃ m, k = m + 1 := ⟨k - 1, by omega⟩
    simp only [spec_ValidName.l0, impl_ValidName.l0]
    rw [if_neg (by omega)]
    by_cases c : (s.size : Int) ≥ 1
    · rw [if_pos c]; exact ⟨_, rfl, by rw [if_neg (by omega)]⟩
    · rw [if_neg c]; exact ⟨_, rfl, by rw [if_neg (by omega)]⟩
  | succ d ih =>
    intro k i h0 h1 hd hk
    obtain ⟨k, rfl⟩ : ∃ m, k = m + 1 := ⟨k - 1, by omega⟩
    have e1 : wrap64 (i + 1) = i + 1 := by unfold wrap64; omega
    obtain ⟨r, hr1, hr2⟩ := ih k (i + 1) (by omega) (by omega) (by omega) (by omega)
    have hlt : i < (s.size : Int) := by omega
    simp only [spec_ValidName.l0, impl_ValidName.l0, spec_l2NameByte.f, if_pos hlt, if_pos h0, e1, hr2]
    generalize bt s i = c
    by_cases g : (97 ≤ c ∧ c ≤ 122) ∨ (48 ≤ c ∧ c ≤ 57) ∨ c = 46 ∨ c = 95 ∨ c = 45
    · refine ⟨r, ?_, ?_⟩
      · repeat' split
        all_goals first | exact hr1 | (simp only [Option.bind_some]; split <;> first | exact hr1 | (simp_all; done) | omega)
      · repeat' split
        all_goals first | rfl | omega
    · refine ⟨false, ?_, ?_⟩
      · repeat' split
        all_goals first | omega | (simp only [Option.bind_some]; split <;> first | rfl | (simp_all; done) | omega)
      · repeat' split
        all_goals first | rfl | omega

theorem FnExactValidName : laws_FnExactValidName.Pure := by
  intro s hs
  refine ⟨1048577, ?_⟩
  unfold laws_FnExactValidName.f spec_ValidName.f impl_ValidName.f
  by_cases c : (s.size : Int) > 1048576
  · rw [if_pos c]
  · rw [if_neg c]
    obtain ⟨r, h1, h2⟩ := names_agree s (by omega) s.size 1048577 0 (by omega) (by omega) (by omega) (by omega)
    rw [h1, h2]
    cases r <;> rfl

end Go.Proofs.Ytkkifimcojbmdaa.Pure
