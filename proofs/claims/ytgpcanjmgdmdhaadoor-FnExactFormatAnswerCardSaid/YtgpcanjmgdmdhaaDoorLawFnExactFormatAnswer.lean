/-
  THE CARD OF FnExactFormatAnswer, out of its walk; written by a program of my own (wip/vc/rows.py). No condition.
-/
import Derived.Test.YtgpcanjmgdmdhaaDoorRows
import Derived.Test.YtgpcanjmgdmdhaaDoorTie
import Derived.Test.YtgpcanjmgdmdhaaDoorCards
import Derived.Test.YtgpcanjmgdmdhaaDoor73
import Derived.Test.YtgpcanjmgdmdhaaDoorOpen
import Derived.Test.YtgpcanjmgdmdhaaDoorHead
import Derived.WalkKit
import Derived.ProofKit
import Derived.OpenShut
import Derived.ShutString
import Derived.ChangeOld
import Derived.Below
import Derived.SizedLaws
import Derived.Lay
import Derived.LaidOnce
import Derived.SevenTiedAt
import Derived.LaidLaws
import Derived.Handed
import Derived.MakeChecks
namespace Go.Proofs.YtgpcanjmgdmdhaaDoor.fnExactFormatAnswer
open Go.Eng Go.ChangeShapes Go.WideShapes Go.ChangeAt Go.RowKit
set_option linter.unusedVariables false
theorem own : ownKnob Tryd.prog.godebug = none := by kernel_rfl
theorem laidOut : laidOutB Tryd.prog = true := Head.laid
set_option maxRecDepth 100000 in
theorem lifted (os : Os) (started : os.Started) (H : Type) (enc : TypeId × Value → H) :
    ReturnsInHanded {} Tryd.checked os 5 .any (fun w args => (Rows.fnExactFormatAnswerSpec.pre enc Tryd.prog Tryd.f5 [] false w args ∧ laidMetH Tryd.prog Rows.fnExactFormatAnswerRow.laid w) ∧ sizedMet enc Tryd.prog Tryd.f5 (OpenSpec.ofChange Rows.fnExactFormatAnswerSpec) false w args) (Rows.fnExactFormatAnswerSpec.post enc Tryd.prog Tryd.f5 false true false false) := by
  refine returnsInHanded_of_change_and (C := Tryd.checked) (X := fun w _ => laidMetH Tryd.prog Rows.fnExactFormatAnswerRow.laid w) (fun _ _ _ hh h => h.of_heap hh) own started (by kernel_rfl) Tryd.func5
    (ChangeSpec.witness_shaped (enc := enc) (C := Tryd.checked) (os := os) (X := fun w _ => laidMetH Tryd.prog Rows.fnExactFormatAnswerRow.laid w) false (World.laidAll Tryd.prog os Rows.fnExactFormatAnswerRow.laid) #[.agg #[.int .i64 0, .string ⟨#[]⟩, .string ⟨#[]⟩, .int .i64 0], .agg #[.int .i64 0, .string ⟨#[]⟩, .slice none 0 0, .int .i64 0, .int .i64 0, .int .i64 0, .int .i64 0, .int .i64 0, .int .i64 0]] 8 (World.laidAll_os _ _ _) (World.shaped_of_ZipB (by kernel_rfl) (by kernel_rfl)) (by kernel_rfl) (by kernel_rfl) (by kernel_rfl)
      (by rw [MakeChecks.laidMetH_plain _ _ _ (by kernel_rfl)]; exact laidMet_laidAll _ (by kernel_rfl) (by kernel_rfl))) ?_
  intro W base args ds gs before hval0 hW hcnd hsz0 hL0 _
  have hL : laidMet Tryd.prog Rows.fnExactFormatAnswerRow.laid W := by rw [← MakeChecks.laidMetH_plain _ _ _ (by kernel_rfl)]; exact hL0
  have hval : ∀ (j : Nat) t v, Tryd.f5.params[j]? = some t → args[j]? = some v → Value.okWide Tryd.prog W .any base t v := hval0
  have hW' := hW
  obtain ⟨p, q, hA0, hV, rfl, hfz, hnd⟩ := hW
  have hA : DataW.TrodAll enc Tryd.prog W 0 (fun _ => true) true Tryd.f5.params.toList args.toList ds p := hA0
  rw [Tryd.params5] at hA hval
  obtain ⟨v0, vs0, d0, ds0, p0, q0, hargs, rfl, rfl, h0, r0⟩ := trodAll_cons hA
  obtain ⟨v1, vs1, d1, ds1, p1, q1, rfl, rfl, rfl, h1, r1⟩ := trodAll_cons r0
  obtain ⟨rfl, rfl, rfl⟩ := trodAll_nil r1
  obtain rfl : args = #[v0, v1] := by cases args; simp_all
  obtain ⟨rfl, rfl⟩ := trodVars_none hV
  have hlt : ∀ x, x ∈ p0 ++ p1 → x.block < W.heap.size := fun x hx => hW'.lt x (by simpa using hx)
  obtain ⟨F0, y0, cs0, e0, K0, ok0⟩ := open_st Tryd.underlying53 (opens_struct Tryd.underlying53 (by kernel_rfl) (opensF_cons rfl (by kernel_rfl) (opens_int Tryd.underlying2) (opensF_cons rfl (by kernel_rfl) (opens_str Tryd.underlying9) (opensF_cons rfl (by kernel_rfl) (opens_str Tryd.underlying9) (opensF_one rfl (by kernel_rfl) (opens_int Tryd.underlying2)))))) (hval 0 53 v0 rfl rfl) h0
  subst e0
  obtain ⟨_, _, _, _, rfl, rfl, ⟨rfl, rfl⟩, ⟨_, _, _, _, rfl, rfl, ⟨rfl, rfl⟩, ⟨_, _, _, _, rfl, rfl, ⟨rfl, rfl⟩, ⟨rfl, rfl⟩⟩⟩⟩ := K0
  obtain ⟨F1, y1, cs1, e1, K1, ok1⟩ := open_st Tryd.underlying58 (opens_struct Tryd.underlying58 (by kernel_rfl) (opensF_cons rfl (by kernel_rfl) (opens_int Tryd.underlying2) (opensF_cons rfl (by kernel_rfl) (opens_str Tryd.underlying9) (opensF_cons rfl (by kernel_rfl) (opens_slice (e0 := 9) Tryd.underlying54 (by kernel_rfl) (opens_str Tryd.underlying9)) (opensF_cons rfl (by kernel_rfl) (opens_int Tryd.underlying2) (opensF_one rfl (by kernel_rfl) (opens_struct Tryd.underlying56 (by kernel_rfl) (opensF_cons rfl (by kernel_rfl) (opens_int Tryd.underlying2) (opensF_cons rfl (by kernel_rfl) (opens_int Tryd.underlying2) (opensF_cons rfl (by kernel_rfl) (opens_int Tryd.underlying2) (opensF_cons rfl (by kernel_rfl) (opens_int Tryd.underlying2) (opensF_one rfl (by kernel_rfl) (opens_int Tryd.underlying2))))))))))))) (hval 1 58 v1 rfl rfl) h1
  subst e1
  obtain ⟨_, _, _, _, rfl, rfl, ⟨rfl, rfl⟩, ⟨_, _, _, _, rfl, rfl, ⟨rfl, rfl⟩, ⟨_, _, _, _, rfl, rfl, ⟨v1_2, rfl, R1_2⟩, ⟨_, _, _, _, rfl, rfl, ⟨rfl, rfl⟩, ⟨_, _, _, _, rfl, rfl, ⟨rfl, rfl⟩, ⟨_, _, _, _, rfl, rfl, ⟨rfl, rfl⟩, ⟨_, _, _, _, rfl, rfl, ⟨rfl, rfl⟩, ⟨_, _, _, _, rfl, rfl, ⟨rfl, rfl⟩, ⟨rfl, rfl⟩⟩⟩⟩⟩⟩⟩⟩⟩ := K1
  refine Calls.mono (w_FnExactFormatAnswer R1_2 ok1.2.2.1.1 ok1.2.2.1.2 ok1.2.1 ok0.2.1 ok0.2.2.1 (i64_wf ok1.1) (i64_wf ok1.2.2.2.1) (i64_wf ok1.2.2.2.2.1) (i64_wf ok1.2.2.2.2.2.1) (i64_wf ok1.2.2.2.2.2.2.1) (i64_wf ok1.2.2.2.2.2.2.2.1) (i64_wf ok1.2.2.2.2.2.2.2.2) (tabOf (by kernel_rfl) hL)) fun e W' ⟨v, he, hv, hc⟩ => ?_
  subst he; subst hv
  exact ⟨_, rfl, _, _, _, [], _, [], hW', trodAll_mk1 (shut_bool Tryd.underlying4 _), trodAll_cons_mk (Below.trod laidOut (by kernel_rfl) (of_decide_eq_true (by kernel_rfl)) h0 hc.below (fun x hx => hlt x (by simp [hx]))) (trodAll_cons_mk (Below.trod laidOut (by kernel_rfl) (of_decide_eq_true (by kernel_rfl)) h1 hc.below (fun x hx => hlt x (by simp [hx]))) (trodAll_mk0)), rfl, hc.below.frame _, fun h => by cases h⟩
open Head in
theorem closed : joinedFacts Tryd.pinned.checked.prog 5 Tryd.f5 Rows.fnExactFormatAnswerSpec Rows.fnExactFormatAnswerRow = true := by
  unfold joinedFacts
  exact (ai (ai (ai (ai (ai (ai (ai (ai (ai (ai (ai (ai (ai (ai (ai (ai (ai (ai (ai (ai (ai (ai (ai (ai (ai (ai (ai (ai (ai (ai (ai (by as_aux_lemma => kernel_rfl) Head.laid) Head.rowed) (by as_aux_lemma => kernel_rfl)) (by as_aux_lemma => kernel_rfl)) (by as_aux_lemma => kernel_rfl)) (by as_aux_lemma => kernel_rfl)) (by as_aux_lemma => kernel_rfl)) (by as_aux_lemma => kernel_rfl)) (by as_aux_lemma => kernel_rfl)) (by as_aux_lemma => kernel_rfl)) (by as_aux_lemma => kernel_rfl)) (by as_aux_lemma => kernel_rfl)) (by as_aux_lemma => kernel_rfl)) (by as_aux_lemma => kernel_rfl)) (by as_aux_lemma => kernel_rfl)) (by as_aux_lemma => kernel_rfl)) (by as_aux_lemma => kernel_rfl)) (by as_aux_lemma => kernel_rfl)) (by as_aux_lemma => kernel_rfl)) (by as_aux_lemma => kernel_rfl)) (by as_aux_lemma => kernel_rfl)) (by rw [Head.plain]; rfl)) (by as_aux_lemma => kernel_rfl)) Head.heard) Head.mayEnter) (by rw [Head.lifts]; rfl)) (by rw [Head.make]; rfl)) (by as_aux_lemma => kernel_rfl)) (by as_aux_lemma => kernel_rfl)) (by as_aux_lemma => kernel_rfl)) (by as_aux_lemma => kernel_rfl))
theorem over : Rows.fnExactFormatAnswerRow.holds Tryd.pinned (OpenSpec.ofChange Rows.fnExactFormatAnswerSpec) :=
  OpenClaim.holds_of_wide 5 Tryd.f5 rfl rfl rfl rfl rfl rfl rfl ⟨rfl, rfl, rfl, rfl, rfl⟩ rfl rfl rfl rfl rfl (by kernel_rfl) Tryd.func5
    closed (of_decide_eq_true (by kernel_rfl)) (by unfold Func.isWrapper; first | (rw [if_pos (by decide +kernel)]; kernel_rfl) | (rw [if_neg (by decide +kernel)]; exact ⟨rfl, rfl⟩))
    (fun os started H enc _ => lifted os started H enc)
theorem plain_ (f : FuncId) (fn : Func) (hf : Tryd.pinned.checked.prog.funcNamed "loop.example/s02881/laws.FnExactFormatAnswer" = some f) (hfn : Tryd.pinned.checked.prog.funcs[f]? = some fn) :
    true = Tryd.pinned.checked.prog.looks [] ∧ ∀ (j : Nat) t, fn.params[j]? = some t → Tryd.pinned.checked.prog.wantsStandIn t = false := by
  obtain rfl : f = 5 := Option.some.inj ((show Tryd.prog.funcNamed "loop.example/s02881/laws.FnExactFormatAnswer" = some 5 by kernel_rfl).symm.trans hf) |>.symm
  obtain rfl : fn = Tryd.f5 := (Option.some.inj (Tryd.func5.symm.trans hfn)).symm
  refine ⟨by kernel_rfl, fun j t ht => ?_⟩
  rw [Tryd.params5] at ht
  have hm : t ∈ [53, 58] := by simpa using Array.mem_of_getElem? ht
  have hall : ([53, 58].all fun u => !Tryd.prog.wantsStandIn u) = true := by kernel_rfl
  exact (show Tryd.prog.wantsStandIn t = false by simpa using List.all_eq_true.1 hall t hm)
theorem proved : Rows.FnExactFormatAnswerCardSaid :=
  Claim7.holds_tied_plain_at .later [] _ _ _ _ over (fun _ h => by cases h) (by kernel_rfl) (fun _ h => by cases h) fnExactFormatAnswer_row_tie rfl ⟨rfl, rfl⟩ (by kernel_rfl) rfl plain_ (by kernel_rfl)
end Go.Proofs.YtgpcanjmgdmdhaaDoor.fnExactFormatAnswer
namespace Go.Proofs.YtgpcanjmgdmdhaaDoor
/-- The row, under a short name, for the claim. -/
theorem fnExactFormatAnswer_holds : Rows.FnExactFormatAnswerCardSaid := fnExactFormatAnswer.proved
end Go.Proofs.YtgpcanjmgdmdhaaDoor
