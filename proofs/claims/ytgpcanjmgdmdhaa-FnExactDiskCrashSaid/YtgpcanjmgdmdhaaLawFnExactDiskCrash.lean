/-
  THE ROW OF FnExactDiskCrash, out of its walk; written by a program of my own (wip/vc/rows.py). No condition.
-/
import Derived.Test.YtgpcanjmgdmdhaaRows
import Derived.Test.Ytgpcanjmgdmdhaa44
import Derived.Test.YtgpcanjmgdmdhaaOpen
import Derived.Test.YtgpcanjmgdmdhaaHead
import Derived.WalkKit
import Derived.ProofKit
import Derived.OpenShut
import Derived.ShutString
import Derived.ChangeOld
import Derived.Below
import Derived.SizedLaws
namespace Go.Proofs.Ytgpcanjmgdmdhaa.fnExactDiskCrash
open Go.Eng Go.ChangeShapes Go.WideShapes Go.ChangeAt Go.RowKit
set_option linter.unusedVariables false
theorem own : ownKnob Try.prog.godebug = none := by kernel_rfl
theorem laidOut : laidOutB Try.prog = true := Head.laid
set_option maxRecDepth 100000 in
theorem lifted (os : Os) (started : os.Started) (H : Type) (enc : TypeId × Value → H) :
    ReturnsInHanded {} Try.checked os 22 .any (Rows.fnExactDiskCrashSpec.pre6 enc Try.prog Try.f22 Rows.fnExactDiskCrashRow.domain false) (Rows.fnExactDiskCrashSpec.post enc Try.prog Try.f22 false true false false) := by
  refine returnsInHanded_of_change_sized (C := Try.checked) own started (by kernel_rfl) Try.func22
    (ChangeSpec.witness6 (enc := enc) (C := Try.checked) false ⟨#[], #[.agg #[.slice none 0 0, .slice none 0 0], .slice none 0 0], []⟩ 8 (by kernel_rfl) (by kernel_rfl) (by kernel_rfl) (by kernel_rfl)) ?_
  intro W base args ds gs before hval0 hW hcnd hsz0 _
  have hval : ∀ (j : Nat) t v, Try.f22.params[j]? = some t → args[j]? = some v → Value.okWide Try.prog W .any base t v := hval0
  have hW' := hW
  obtain ⟨p, q, hA0, hV, rfl, hfz, hnd⟩ := hW
  have hA : DataW.TrodAll enc Try.prog W 0 (fun _ => true) true Try.f22.params.toList args.toList ds p := hA0
  rw [Try.params22] at hA hval
  obtain ⟨v0, vs0, d0, ds0, p0, q0, hargs, rfl, rfl, h0, r0⟩ := trodAll_cons hA
  obtain ⟨v1, vs1, d1, ds1, p1, q1, rfl, rfl, rfl, h1, r1⟩ := trodAll_cons r0
  obtain ⟨rfl, rfl, rfl⟩ := trodAll_nil r1
  obtain rfl : args = #[v0, v1] := by cases args; simp_all
  obtain ⟨rfl, rfl⟩ := trodVars_none hV
  have hlt : ∀ x, x ∈ p0 ++ p1 → x.block < W.heap.size := fun x hx => hW'.lt x (by simpa using hx)
  obtain ⟨F0, y0, cs0, e0, K0, ok0⟩ := open_st Try.underlying74 (opens_struct Try.underlying74 (by kernel_rfl) (opensF_cons rfl (by kernel_rfl) (opens_slice (e0 := 5) Try.underlying40 (by kernel_rfl) (opens_int Try.underlying5)) (opensF_one rfl (by kernel_rfl) (opens_slice (e0 := 174) Try.underlying72 (by kernel_rfl) (opens_struct Try.underlying174 (by kernel_rfl) (opensF_cons rfl (by kernel_rfl) (opens_int Try.underlying2) (opensF_one rfl (by kernel_rfl) (opens_slice (e0 := 5) Try.underlying40 (by kernel_rfl) (opens_int Try.underlying5))))))))) (hval 0 74 v0 rfl rfl) h0
  subst e0
  obtain ⟨_, _, _, _, rfl, rfl, ⟨v0_0, rfl, R0_0⟩, ⟨v0_1, rfl, R0_1⟩⟩ := K0
  obtain ⟨F1, xs1, R1, len1, ok1⟩ := open_sl Try.underlying22 (by kernel_rfl) (opens_int Try.underlying2) (hval 1 22 v1 rfl rfl) h1
  refine Calls.mono (w_FnExactDiskCrash R0_0 R0_1 ok0.1.1 ok0.2.1 (fun x hx => (ok0.2.2 x hx).2.1) R1 len1) fun e W' ⟨v, he, hv, hc⟩ => ?_
  subst he; subst hv
  exact ⟨_, rfl, _, _, _, [], _, [], hW', trodAll_mk1 (shut_bool Try.underlying4 _), trodAll_cons_mk (Below.trod laidOut (by kernel_rfl) (of_decide_eq_true (by kernel_rfl)) h0 hc.below (fun x hx => hlt x (by simp [hx]))) (trodAll_cons_mk (Below.trod laidOut (by kernel_rfl) (of_decide_eq_true (by kernel_rfl)) h1 hc.below (fun x hx => hlt x (by simp [hx]))) (trodAll_mk0)), rfl, hc.below.frame _, fun h => by cases h⟩
open Head in
theorem closed : joinedFacts Try.pinned.checked.prog 22 Try.f22 Rows.fnExactDiskCrashSpec Rows.fnExactDiskCrashRow = true := by
  unfold joinedFacts
  exact (ai (ai (ai (ai (ai (ai (ai (ai (ai (ai (ai (ai (ai (ai (ai (ai (ai (ai (ai (ai (ai (ai (ai (ai (ai (ai (ai (ai (ai (ai (ai (by as_aux_lemma => kernel_rfl) Head.laid) Head.rowed) (by as_aux_lemma => kernel_rfl)) (by as_aux_lemma => kernel_rfl)) (by as_aux_lemma => kernel_rfl)) (by as_aux_lemma => kernel_rfl)) (by as_aux_lemma => kernel_rfl)) (by as_aux_lemma => kernel_rfl)) (by as_aux_lemma => kernel_rfl)) (by as_aux_lemma => kernel_rfl)) (by as_aux_lemma => kernel_rfl)) (by as_aux_lemma => kernel_rfl)) (by as_aux_lemma => kernel_rfl)) (by as_aux_lemma => kernel_rfl)) (by as_aux_lemma => kernel_rfl)) (by as_aux_lemma => kernel_rfl)) (by as_aux_lemma => kernel_rfl)) (by as_aux_lemma => kernel_rfl)) (by as_aux_lemma => kernel_rfl)) (by as_aux_lemma => kernel_rfl)) (by as_aux_lemma => kernel_rfl)) (by rw [Head.plain]; rfl)) (by as_aux_lemma => kernel_rfl)) Head.heard) Head.mayEnter) (by rw [Head.lifts]; rfl)) (by rw [Head.make]; rfl)) (by as_aux_lemma => kernel_rfl)) (by as_aux_lemma => kernel_rfl)) (by as_aux_lemma => kernel_rfl)) (by as_aux_lemma => kernel_rfl))
theorem over : Rows.fnExactDiskCrashRow.holds Try.pinned (OpenSpec.ofChange Rows.fnExactDiskCrashSpec) :=
  OpenClaim.holds_of_wide 22 Try.f22 rfl rfl rfl rfl rfl rfl rfl ⟨rfl, rfl, rfl, rfl, rfl⟩ rfl rfl rfl rfl rfl (by kernel_rfl) Try.func22
    closed (of_decide_eq_true (by kernel_rfl)) (by unfold Func.isWrapper; first | (rw [if_pos (by decide +kernel)]; kernel_rfl) | (rw [if_neg (by decide +kernel)]; exact ⟨rfl, rfl⟩))
    (fun os started H enc _ => lifted os started H enc)
theorem proved : Rows.FnExactDiskCrashSaid := over
end Go.Proofs.Ytgpcanjmgdmdhaa.fnExactDiskCrash
namespace Go.Proofs.Ytgpcanjmgdmdhaa
/-- The row, under a short name, for the claim. -/
theorem fnExactDiskCrash_holds : Rows.FnExactDiskCrashSaid := fnExactDiskCrash.proved
end Go.Proofs.Ytgpcanjmgdmdhaa
