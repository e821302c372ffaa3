/-
  CONTRACTS 51: the iterator's maker. No condition.
-/
import Derived.Test.Ytgpcanjmgdmdhaa50
namespace Go.Proofs.Ytgpcanjmgdmdhaa
open Go Go.Eng
set_option maxRecDepth 100000
set_option maxHeartbeats 4000000
set_option linter.unusedVariables false
theorem freeLids_mk {w : World} {F : List Nat} {v : Value} {t : List (Int × Bool)} (hx : kE.R w F v t) : Ret Try.prog 104 #[v] w (fun r w' => ∃ g, r = .func (.func 146) #[] #[.pointer (some ⟨g, 0, none⟩)] ∧ Hold w [] w' [rB g 57 [v]]) := by
  refine enter Try.func104 rfl Try.ntmps104 (by rfl) (by rfl) ?_
  have H0 : Hold w [] w [] := Hold.start w
  refine sq (rg (ef (xbx (t := 57) rfl (cel1 ((hx.t (Hold.ch H0))).oneCell)) ?_))
  rintro _ w1 ⟨g1, e1, rfl, -, b1, c1⟩
  have H1 : Hold w [] w1 [rB g1 57 ([v])] := Hold.newB H0 e1 b1 c1
  clear H0
  clear e1 b1 c1
  refine r (sa rfl) (re (sq (rg (r (mf (vs := []) (cs := [.pointer (some ⟨g1, 0, none⟩)]) an (ac rfl an)) (r (sa rfl) (re (rt ?_)))))))
  exact fin1 (v := .func (.func 146) #[] [.pointer (some ⟨g1, 0, none⟩)].toArray) Try.results104 rfl ⟨_, rfl, H1⟩
end Go.Proofs.Ytgpcanjmgdmdhaa
