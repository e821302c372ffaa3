/-
  REGIONS WHOSE ORDER IS DRAWN, ANEW, OF MY OWN: what reads is taken first, in whatever world meets S'; the last operation of all need not keep S'; a call may panic. Over any program. No condition.
-/
import Derived.Test.YtgpcanjmgdmdhaaDoorHold
namespace Go.Eng
set_option linter.unusedVariables false
set_option linter.unusedSimpArgs false

section
variable {P : Program} {ops : Array Oper} {Q : Exit → Act → World → Prop} {S' : World → Prop}
/-- Whatever order is picked from here on; S' holds behind every operation but the last. -/
def wpAnyE (P : Program) (ops : Array Oper) (Q : Exit → Act → World → Prop) (S' : World → Prop) : Nat → Array Bool → Act → World → Prop
  | 0, listed, a, w => Region.ready .any ops listed = [] ∧ Q .normal a w
  | fuel + 1, listed, a, w =>
    (Region.ready .any ops listed = [] → Q .normal a w) ∧
    ∀ i ∈ Region.ready .any ops listed, wpOp P ops Q i (fun a' w' => ((listed.setIfInBounds i true).all id = true ∨ S' w') ∧ wpAnyE P ops Q S' fuel (listed.setIfInBounds i true) a' w') a w
theorem wpAny_of_E : ∀ (fuel : Nat) (listed : Array Bool) (a : Act) (w : World), wpAnyE P ops Q S' fuel listed a w → wpAny P .any ops Q fuel listed a w
  | 0, _, _, _, h => h
  | fuel + 1, _, _, _, h => ⟨h.1, fun i hi => wpOp_mono (fun a' w' h' => wpAny_of_E fuel _ a' w' h'.2) (h.2 i hi)⟩
/-- What has come up has all that it waits for come up ahead of it. -/
def closed (ops : Array Oper) (listed : Array Bool) : Prop := listed.size = ops.size ∧ ∀ k ok, ops[k]? = some ok → listed.getD k false = true → ∀ e ∈ ok.after, Region.binds .any e = true → listed.getD e.on false = true
theorem closed_none : closed ops (Array.replicate ops.size false) := by
  refine ⟨by simp, fun k ok hk h => ?_⟩
  exfalso
  simp [Array.getD_eq_getD_getElem?, Array.getElem?_replicate] at h
  split at h <;> simp at h
theorem closed_set {listed : Array Bool} {i : Nat} (h : closed ops listed) (hi : i ∈ Region.ready .any ops listed) : closed ops (listed.setIfInBounds i true) := by
  refine ⟨by simp [h.1], fun k ok hk hl e he hb => ?_⟩
  obtain ⟨h0, o, ho, hall⟩ := mem_ready.1 hi
  by_cases e' : i = k
  · subst e'
    rw [ho] at hk
    injection hk with hk
    subst hk
    exact getD_set_true (hall e he hb)
  · rw [getD_set_ne false e'] at hl
    exact getD_set_true (h.2 k ok hk hl e he hb)
theorem all_get {listed : Array Bool} (h : listed.all id = true) {k : Nat} (hk : k < listed.size) : listed.getD k false = true := by
  rw [Array.all_eq_true] at h
  simpa [Array.getD_eq_getD_getElem?, Array.getElem?_eq_getElem hk] using h k hk
theorem wpAnyE_first {i : Nat} {oi : Oper} {v : Value} (hi : ops[i]? = some oi) (hsel : ∀ (j : Nat) (o : Oper) cs b, ops[j]? = some o → o.op ≠ .select cs b)
    (hQ : ∀ c a w, Q (.panic c) (a.put oi.dst v) w → Q (.panic c) a w) (hs : ∃ (k : Nat) (ok : Oper), ops[k]? = some ok ∧ ∃ e ∈ ok.after, Region.binds .any e = true ∧ e.on = i) :
    ∀ (fuel : Nat) (listed : Array Bool) (a : Act) (w : World), closed ops listed →
      (∀ j oj, ops[j]? = some oj → j ≠ i → listed.getD j true = false → (∀ e ∈ oj.after, Region.binds .any e = true → e.on ≠ i) → oi.apart ops oj = true) →
      i ∈ Region.ready .any ops listed → YieldsIf P ops S' oi v a → S' w →
      wpAnyE P ops Q S' fuel (listed.setIfInBounds i true) (a.put oi.dst v) w → wpAnyE P ops Q S' (fuel + 1) listed a w := by
  intro fuel
  induction fuel with
  | zero =>
    intro listed a w _ _ hr hy hS H
    refine ⟨fun h => (by rw [h] at hr; cases hr), fun j hj => ?_⟩
    by_cases hji : j = i
    · subst hji; exact hy.wpOp hi hS ⟨.inr hS, H⟩
    · have := ready_mono hj hji
      rw [H.1] at this
      cases this
  | succ fuel ih =>
    intro listed a w hcl hfree hr hy hS H
    refine ⟨fun h => (by rw [h] at hr; cases hr), fun j hj => ?_⟩
    by_cases hji : j = i
    · subst hji; exact hy.wpOp hi hS ⟨.inr hS, H⟩
    · have h1 := H.2 j (ready_mono hj hji)
      obtain ⟨hjun, oj, hoj, hall⟩ := mem_ready.1 hj
      obtain ⟨h0, oi', hoi', halli⟩ := mem_ready.1 hr
      have hilt : i < listed.size := by
        rcases Nat.lt_or_ge i listed.size with h' | h'
        · exact h'
        · simp [Array.getElem?_eq_none h'] at h0
      have hiun : listed.getD i false = true → False := fun h1 => by
        simp [hilt] at h0 h1; rw [h0] at h1; cases h1
      have hnot : ∀ e ∈ oj.after, Region.binds .any e = true → e.on ≠ i := fun e he hb heq => by
        have h1 := hall e he hb
        rw [heq] at h1
        exact hiun h1
      have h2 := wpOp_putIf hoj (hfree j oj hoj hji hjun hnot) (fun cs b => hsel i oi cs b hi) (fun cs b => hsel j oj cs b hoj) hQ hy h1
      have hfree' : ∀ k ok, ops[k]? = some ok → k ≠ i → (listed.setIfInBounds j true).getD k true = false →
          (∀ e ∈ ok.after, Region.binds .any e = true → e.on ≠ i) → oi.apart ops ok = true := fun k ok hk hki hun hno => by
        refine hfree k ok hk hki ?_ hno
        by_cases hjk : j = k
        · subst hjk; exact hjun
        · rw [getD_set_ne true hjk] at hun; exact hun
      refine wpOp_mono (fun a' w' h3 => ?_) h2
      have hS' : S' w' := by
        rcases h3.2.1 with hd | hd
        · exfalso
          obtain ⟨k, ok, hk, e, he, hb, heq⟩ := hs
          have hklt : k < listed.size := by rw [hcl.1]; exact (Array.getElem?_eq_some_iff.1 hk).1
          by_cases hki : k = i
          · subst hki
            rw [hoi'] at hk
            injection hk with hk
            subst hk
            exact hiun (heq ▸ halli e he hb)
          · by_cases hkj : k = j
            · subst hkj
              rw [hoj] at hk
              injection hk with hk
              subst hk
              exact hnot e he hb heq
            · have := all_get hd (k := k) (by simpa using hklt)
              rw [getD_set_ne false (Ne.symm hkj), getD_set_ne false (Ne.symm hki)] at this
              exact hiun (heq ▸ hcl.2 k ok hk this e he hb)
        · exact hd
      refine ⟨.inr hS', ih (listed.setIfInBounds j true) a' w' (closed_set hcl hj) hfree' (ready_mono hr (Ne.symm hji)) h3.1 hS' ?_⟩
      rw [Array.setIfInBounds_comm _ _ hji]
      exact h3.2.2
/-- The operation's value is waited for. -/
def hasSucc (ops : Array Oper) (i : Nat) : Bool := ops.any fun o => o.after.any fun e => Region.binds .any e && Nat.beq e.on i
theorem hasSucc_spec {i : Nat} (h : hasSucc ops i = true) : ∃ (k : Nat) (ok : Oper), ops[k]? = some ok ∧ ∃ e ∈ ok.after, Region.binds .any e = true ∧ e.on = i := by
  unfold hasSucc at h
  rw [Array.any_eq_true] at h
  obtain ⟨k, hk, h⟩ := h
  rw [Array.any_eq_true] at h
  obtain ⟨m, hm, h⟩ := h
  simp only [Bool.and_eq_true, Nat.beq_eq] at h
  exact ⟨k, ops[k], Array.getElem?_eq_getElem hk, _, Array.getElem_mem hm, h.1, h.2⟩
end

section
variable {P : Program} {n : Nat} {k : List It} {Qf : Exit → Act → World → Prop} {ρ : Fr} {ds : List Deferred} {w : World} {ops : Array Oper} {K : Fr → World → Prop} {Kp : List PanicEntry → World → Prop} {S' : World → Prop} {fuel : Nat} {listed : Array Bool}

def Dqe (n : Nat) (ds : List Deferred) (K : Fr → World → Prop) (Kp : List PanicEntry → World → Prop) : Exit → Act → World → Prop
  | .normal, a, w => ∃ ρ, Sim n ρ ds a ∧ K ρ w
  | .panic c, a, w => (∃ ρ, Sim n ρ ds a) ∧ Kp c w
  | _, _, _ => False
theorem Dqe.back {d : Option Nat} {v : Value} (c : List PanicEntry) (a : Act) (w : World) (h : Dqe n ds K Kp (.panic c) (a.put d v) w) : Dqe n ds K Kp (.panic c) a w := by
  obtain ⟨⟨ρ, hs⟩, hK⟩ := h
  refine ⟨⟨fun t => a.tmps.getD t undef, ?_, ?_, fun t => rfl⟩, hK⟩
  · have := hs.size
    cases d <;> simpa [Act.put] using this
  · have := hs.defers
    cases d <;> simpa [Act.put] using this
def De (P : Program) (n : Nat) (ops : Array Oper) (K : Fr → World → Prop) (Kp : List PanicEntry → World → Prop) (S' : World → Prop) (fuel : Nat) (listed : Array Bool) (ρ : Fr) (ds : List Deferred) (w : World) : Prop :=
  okl n ops.toList = true → closed ops listed → (listed.all id = true ∨ S' w) → ∀ a, Sim n ρ ds a → wpAnyE P ops (Dqe n ds K Kp) S' fuel listed a w
/-- The region's beginning; what reads may lean on S' (chosen here). -/
theorem rde {id : Nat} {l : List Oper} (hm : P.follows .mixedOrders = true)
    (h : ∀ w1, Ch [] w w1 → ∃ S' : World → Prop, S' w1 ∧ De P n l.toArray (fun ρ' w' => S P n k Qf ρ' ds w') (fun c w' => ∀ a, (∃ ρ, Sim n ρ ds a) → den P Qf k (.panic c) a w') S' l.length (Array.replicate l.length false) ρ ds w1) : S P n (.c (.region id l.toArray true) :: k) Qf ρ ds w := by
  intro hk a ha
  simp only [okk, okc, Bool.and_eq_true] at hk
  obtain ⟨S', hS, hh⟩ := h { w with drawn := w.drawn + 1 } (ch_drew w (w.drawn + 1))
  have hh := hh hk.1 (by simpa using closed_none (ops := l.toArray)) (.inr hS) a ha
  refine wp_mono (Q := Dqe n ds (fun ρ' w' => S P n k Qf ρ' ds w') (fun c w' => ∀ a, (∃ ρ, Sim n ρ ds a) → den P Qf k (.panic c) a w')) ?_ ?_
  · exact wp_region_any hm (by simpa using wpAny_of_E _ _ _ _ hh)
  · intro e a' w' h
    cases e with
    | normal => obtain ⟨ρ', hs, hK⟩ := h; exact hK hk.2 a' hs
    | panic c => exact h.2 a' h.1
    | exit id => exact h.elim
    | goto l => exact h.elim
    | ret => exact h.elim
    | outgrown => exact h.elim
/-- The same, with a word for what holds behind the region. -/
theorem rde_cut {id : Nat} {l : List Oper} (I : Fr → World → Prop) (hm : P.follows .mixedOrders = true)
    (h : ∀ w1, Ch [] w w1 → ∃ S' : World → Prop, S' w1 ∧ De P n l.toArray I (fun c w' => ∀ a, (∃ ρ, Sim n ρ ds a) → den P Qf k (.panic c) a w') S' l.length (Array.replicate l.length false) ρ ds w1) (hI : ∀ ρ' w', I ρ' w' → S P n k Qf ρ' ds w') : S P n (.c (.region id l.toArray true) :: k) Qf ρ ds w := by
  intro hk a ha
  simp only [okk, okc, Bool.and_eq_true] at hk
  obtain ⟨S', hS, hh⟩ := h { w with drawn := w.drawn + 1 } (ch_drew w (w.drawn + 1))
  have hh := hh hk.1 (by simpa using closed_none (ops := l.toArray)) (.inr hS) a ha
  refine wp_mono (Q := Dqe n ds I (fun c w' => ∀ a, (∃ ρ, Sim n ρ ds a) → den P Qf k (.panic c) a w')) ?_ ?_
  · exact wp_region_any hm (by simpa using wpAny_of_E _ _ _ _ hh)
  · intro e a' w' h
    cases e with
    | normal => obtain ⟨ρ', hs, hK⟩ := h; exact hI ρ' w' hK hk.2 a' hs
    | panic c => exact h.2 a' h.1
    | exit id => exact h.elim
    | goto l => exact h.elim
    | ret => exact h.elim
    | outgrown => exact h.elim
theorem not_all {listed : Array Bool} {i : Nat} (h : i ∈ Region.ready .any ops listed) : ¬ listed.all id = true := by
  intro hd
  obtain ⟨h0, _⟩ := mem_ready.1 h
  rcases Nat.lt_or_ge i listed.size with h' | h'
  · have := all_get hd h'
    simp [h'] at h0 this; rw [h0] at this; cases this
  · simp [Array.getElem?_eq_none h'] at h0
theorem edtv (i : Nat) {oi : Oper} {v : Value} (hi : ops[i]? = some oi) (hc : (Region.noSelect ops && Region.free .any ops listed i && (Region.ready .any ops listed).contains i && hasSucc ops i) = true)
    (hy : ∀ a, Sim n ρ ds a → YieldsIf P ops S' oi v a) (h : De P n ops K Kp S' fuel (listed.setIfInBounds i true) (updo ρ oi.dst v) ds w) : De P n ops K Kp S' (fuel + 1) listed ρ ds w := by
  intro hl hcl hS a ha
  simp only [Bool.and_eq_true] at hc
  have hr : i ∈ Region.ready .any ops listed := by simpa using hc.1.2
  have hS' : S' w := hS.resolve_left (not_all hr)
  refine wpAnyE_first hi (Region.noSelect_spec hc.1.1.1) (fun c a w => Dqe.back c a w) (hasSucc_spec hc.2) fuel listed a w hcl (Region.free_spec hi hc.1.1.2) hr (hy a ha) hS' ?_
  exact h hl (closed_set hcl hr) (.inr hS') _ (ha.put oi.dst (okl_at hl (by simpa using hi)) v)
/-- What only reads is taken first. -/
theorem edt (i : Nat) {oi : Oper} {v : Value} (hi : ops[i]? = some oi) (hc : (Region.noSelect ops && Region.free .any ops listed i && (Region.ready .any ops listed).contains i && hasSucc ops i) = true)
    (hr : ∀ w', S' w' → Rn P ρ oi w' v) (h : De P n ops K Kp S' fuel (listed.setIfInBounds i true) (updo ρ oi.dst v) ds w) : De P n ops K Kp S' (fuel + 1) listed ρ ds w := by
  intro hl hcl hS a ha
  have hc' := hc
  simp only [Bool.and_eq_true] at hc'
  have hS' : S' w := hS.resolve_left (not_all (by simpa using hc'.1.2))
  exact edtv i hi hc (fun a ha => .inl ⟨by simp [Region.wanted, (hr w hS').1], fun w' hw => by rw [ha.eval]; exact (hr w' hw).2 w' (Ch.refl _ _)⟩) h hl hcl hS a ha
theorem edty (i : Nat) {d : Option Nat} {op : Op} {ty : TypeId} {pos : String} {af : Array Edge} {j t : Nat} {b : Bool} {v : Value} (hi : ops[i]? = some ⟨d, op, ty, pos, af, some (j, b)⟩) (hc : (Region.noSelect ops && Region.free .any ops listed i && (Region.ready .any ops listed).contains i && hasSucc ops i) = true)
    (hj : (ops[j]?).bind (·.dst) = some t) (ht : ρ t = .bool b) (hn : Nat.blt t n = true) (hr : ∀ w', S' w' → Rn P ρ ⟨d, op, ty, pos, af, none⟩ w' v)
    (h : De P n ops K Kp S' fuel (listed.setIfInBounds i true) (updo ρ d v) ds w) : De P n ops K Kp S' (fuel + 1) listed ρ ds w := by
  refine edtv i hi hc (fun a ha => .inl ⟨?_, fun w' hw => ?_⟩) h
  · simp [Region.wanted, yld (ops := ops) ha hj ht hn, vb]
  · rw [ha.eval]; exact (hr w' hw).2 w' (Ch.refl _ _)
theorem edtn (i : Nat) {d : Option Nat} {op : Op} {ty : TypeId} {pos : String} {af : Array Edge} {j t : Nat} {b : Bool} (hi : ops[i]? = some ⟨d, op, ty, pos, af, some (j, b)⟩) (hc : (Region.noSelect ops && Region.free .any ops listed i && (Region.ready .any ops listed).contains i && hasSucc ops i) = true)
    (hj : (ops[j]?).bind (·.dst) = some t) (ht : ρ t = .bool (!b)) (hn : Nat.blt t n = true)
    (h : De P n ops K Kp S' fuel (listed.setIfInBounds i true) (updo ρ d undef) ds w) : De P n ops K Kp S' (fuel + 1) listed ρ ds w := by
  refine edtv i hi hc (fun a ha => .inr ⟨?_, rfl⟩) h
  have hy := yld (ops := ops) ha hj ht hn
  cases b <;> simp [Region.wanted, hy, vb]
theorem edtu (i : Nat) {d : Option Nat} {op : Op} {ty : TypeId} {pos : String} {af : Array Edge} {j t : Nat} {b : Bool} (hi : ops[i]? = some ⟨d, op, ty, pos, af, some (j, b)⟩) (hc : (Region.noSelect ops && Region.free .any ops listed i && (Region.ready .any ops listed).contains i && hasSucc ops i) = true)
    (hj : (ops[j]?).bind (·.dst) = some t) (ht : ρ t = undef) (hn : Nat.blt t n = true)
    (h : De P n ops K Kp S' fuel (listed.setIfInBounds i true) (updo ρ d undef) ds w) : De P n ops K Kp S' (fuel + 1) listed ρ ds w := by
  refine edtv i hi hc (fun a ha => .inr ⟨?_, rfl⟩) h
  have hy := yld (ops := ops) ha hj ht hn
  simp [Region.wanted, hy, undef, vb]
theorem spe (t : Nat) {p : Prop} [Decidable p] (ht : ρ t = .bool (decide p)) (hT : p → De P n ops K Kp S' fuel listed (upd ρ t (.bool true)) ds w) (hF : ¬ p → De P n ops K Kp S' fuel listed (upd ρ t (.bool false)) ds w) : De P n ops K Kp S' fuel listed ρ ds w := by
  by_cases h : p
  · have := hT h; rwa [upd_self ρ t _ (by rw [ht, decide_eq_true h])] at this
  · have := hF h; rwa [upd_self ρ t _ (by rw [ht, decide_eq_false h])] at this
theorem spne (t : Nat) {p : Prop} [Decidable p] (ht : ρ t = .bool (!decide p)) (hT : ¬ p → De P n ops K Kp S' fuel listed (upd ρ t (.bool true)) ds w) (hF : p → De P n ops K Kp S' fuel listed (upd ρ t (.bool false)) ds w) : De P n ops K Kp S' fuel listed ρ ds w := by
  by_cases h : p
  · have := hF h; rwa [upd_self ρ t _ (by rw [ht, decide_eq_true h]; rfl)] at this
  · have := hT h; rwa [upd_self ρ t _ (by rw [ht, decide_eq_false h]; rfl)] at this
theorem spbe (t : Nat) {b : Bool} (ht : ρ t = .bool b) (hT : b = true → De P n ops K Kp S' fuel listed (upd ρ t (.bool true)) ds w) (hF : b = false → De P n ops K Kp S' fuel listed (upd ρ t (.bool false)) ds w) : De P n ops K Kp S' fuel listed ρ ds w := by
  cases b
  · have := hF rfl; rwa [upd_self ρ t _ ht] at this
  · have := hT rfl; rwa [upd_self ρ t _ ht] at this
/-- Number i comes up, and it alone: what it asks. -/
def Ue (P : Program) (n : Nat) (ops : Array Oper) (K : Fr → World → Prop) (Kp : List PanicEntry → World → Prop) (S' : World → Prop) (fuel : Nat) (listed : Array Bool) (i : Nat) (ρ : Fr) (ds : List Deferred) (w : World) : Prop :=
  okl n ops.toList = true → ∀ a, Sim n ρ ds a → wpOp P ops (Dqe n ds K Kp) i (fun a' w' => ((listed.setIfInBounds i true).all id = true ∨ S' w') ∧ (closed ops (listed.setIfInBounds i true) → wpAnyE P ops (Dqe n ds K Kp) S' fuel (listed.setIfInBounds i true) a' w')) a w
theorem ed1 (i : Nat) (hc : (Region.ready .any ops listed == [i]) = true) (h : Ue P n ops K Kp S' fuel listed i ρ ds w) : De P n ops K Kp S' (fuel + 1) listed ρ ds w := by
  intro hl hcl hS a ha
  simp only [beq_iff_eq] at hc
  refine ⟨fun h0 => (by rw [hc] at h0; cases h0), fun j hj => ?_⟩
  have hj' := hj
  rw [hc] at hj'
  obtain rfl := List.mem_singleton.1 hj'
  exact wpOp_mono (fun a' w' h' => ⟨h'.1, h'.2 (closed_set hcl hj)⟩) (h hl a ha)
/-- One of two comes up. -/
theorem ed2 (i j : Nat) (hc : (Region.ready .any ops listed == [i, j]) = true) (h1 : Ue P n ops K Kp S' fuel listed i ρ ds w) (h2 : Ue P n ops K Kp S' fuel listed j ρ ds w) : De P n ops K Kp S' (fuel + 1) listed ρ ds w := by
  intro hl hcl hS a ha
  simp only [beq_iff_eq] at hc
  refine ⟨fun h0 => (by rw [hc] at h0; cases h0), fun m hm => ?_⟩
  have hm' := hm
  rw [hc] at hm'
  simp only [List.mem_cons, List.not_mem_nil, or_false] at hm'
  rcases hm' with rfl | rfl
  · exact wpOp_mono (fun a' w' h' => ⟨h'.1, h'.2 (closed_set hcl hm)⟩) (h1 hl a ha)
  · exact wpOp_mono (fun a' w' h' => ⟨h'.1, h'.2 (closed_set hcl hm)⟩) (h2 hl a ha)
/-- All have come up. -/
theorem edd (hc : (Region.ready .any ops listed).isEmpty = true) (h : K ρ w) : De P n ops K Kp S' fuel listed ρ ds w := by
  intro hl hcl hS a ha
  have hc' : Region.ready .any ops listed = [] := by simpa using hc
  cases fuel with
  | zero => exact ⟨hc', ρ, ha, h⟩
  | succ m => exact ⟨fun _ => ⟨ρ, ha, h⟩, by rw [hc']; simp⟩
theorem euv {i : Nat} {oi : Oper} {v : Value} {w' : World} (hi : ops[i]? = some oi) (hg : oi.guard = none) (hr : (execOp (ev ρ) oi).run P w = .ok (.value v) w') (hS : (listed.setIfInBounds i true).all id = true ∨ S' w') (h : De P n ops K Kp S' fuel (listed.setIfInBounds i true) (updo ρ oi.dst v) ds w') : Ue P n ops K Kp S' fuel listed i ρ ds w := by
  intro hl a ha
  unfold wpOp
  simp only [hi, Region.wanted, hg, if_true]
  refine .inl ?_
  unfold Oper.wp
  rw [ha.eval, hr]
  exact ⟨hS, fun hcl => h hl hcl hS _ (ha.put oi.dst (okl_at hl (by simpa using hi)) v)⟩
theorem eus {i : Nat} {oi : Oper} {w' : World} (hi : ops[i]? = some oi) (hg : oi.guard = none) (hr : (execOp (ev ρ) oi).run P w = .ok .skip w') (hS : (listed.setIfInBounds i true).all id = true ∨ S' w') (h : De P n ops K Kp S' fuel (listed.setIfInBounds i true) (updo ρ oi.dst undef) ds w') : Ue P n ops K Kp S' fuel listed i ρ ds w := by
  intro hl a ha
  unfold wpOp
  simp only [hi, Region.wanted, hg, if_true]
  refine .inl ?_
  unfold Oper.wp
  rw [ha.eval, hr]
  exact ⟨hS, fun hcl => h hl hcl hS _ (ha.put oi.dst (okl_at hl (by simpa using hi)) undef)⟩
/-- An operation that reads, at its time. -/
theorem eur {i : Nat} {oi : Oper} {v : Value} (hi : ops[i]? = some oi) (hr : Rn P ρ oi w v) (hS : (listed.setIfInBounds i true).all id = true ∨ S' w) (h : De P n ops K Kp S' fuel (listed.setIfInBounds i true) (updo ρ oi.dst v) ds w) : Ue P n ops K Kp S' fuel listed i ρ ds w := euv hi hr.1 (hr.2 w (Ch.refl _ _)) hS h
/-- An operation that acts and yields a value. -/
theorem euf {i : Nat} {oi : Oper} {Φ : Value → World → Prop} (hi : ops[i]? = some oi) (h : Ex P ρ oi w Φ) (hk : ∀ v w', Φ v w' → ((listed.setIfInBounds i true).all id = true ∨ S' w') ∧ De P n ops K Kp S' fuel (listed.setIfInBounds i true) (updo ρ oi.dst v) ds w') : Ue P n ops K Kp S' fuel listed i ρ ds w := by
  obtain ⟨hg, v, w', hr, hΦ⟩ := h
  obtain ⟨h1, h2⟩ := hk v w' hΦ
  exact euv hi hg hr h1 h2
/-- An operation that acts and yields nothing. -/
def Ex0 (P : Program) (ρ : Fr) (o : Oper) (w : World) (Φ : World → Prop) : Prop := o.guard = none ∧ ∃ w', (execOp (ev ρ) o).run P w = .ok .skip w' ∧ Φ w'
theorem euf0 {i : Nat} {oi : Oper} {Φ : World → Prop} (hi : ops[i]? = some oi) (h : Ex0 P ρ oi w Φ) (hk : ∀ w', Φ w' → ((listed.setIfInBounds i true).all id = true ∨ S' w') ∧ De P n ops K Kp S' fuel (listed.setIfInBounds i true) (updo ρ oi.dst undef) ds w') : Ue P n ops K Kp S' fuel listed i ρ ds w := by
  obtain ⟨hg, w', hr, hΦ⟩ := h
  obtain ⟨h1, h2⟩ := hk w' hΦ
  exact eus hi hg hr h1 h2
theorem ef0 {rest : List Oper} {o : Oper} {Φ : World → Prop} (h : Ex0 P ρ o w Φ) (hk : ∀ w', Φ w' → L P n ops rest k Qf (updo ρ o.dst undef) ds w') : L P n ops (o :: rest) k Qf ρ ds w := by
  obtain ⟨hg, w', hr, hΦ⟩ := h
  exact ops_ hg hr (hk w' hΦ)

/-! ### Calls that may panic -/
/-- The call returns, and this is so; or it panics, and that is so. -/
def RetP (P : Program) (f : FuncId) (args : Array Value) (w : World) (Φ : Value → World → Prop) (Ψ : List PanicEntry → World → Prop) : Prop :=
  Calls P f args w fun e w' => (∃ v, e = .returned v ∧ Φ v w') ∨ (∃ c, e = .panicked c ∧ Ψ c w')
theorem Ret.p {f : FuncId} {args : Array Value} {Φ : Value → World → Prop} {Ψ : List PanicEntry → World → Prop} (h : Ret P f args w Φ) : RetP P f args w Φ Ψ := Calls.mono h fun _ _ h => .inl h
theorem RetP.mono {f : FuncId} {args : Array Value} {Φ Φ' : Value → World → Prop} {Ψ Ψ' : List PanicEntry → World → Prop} (h : RetP P f args w Φ Ψ) (h1 : ∀ v w', Φ v w' → Φ' v w') (h2 : ∀ c w', Ψ c w' → Ψ' c w') : RetP P f args w Φ' Ψ' :=
  Calls.mono h fun _ _ h => h.imp (fun ⟨v, e, h⟩ => ⟨v, e, h1 _ _ h⟩) (fun ⟨c, e, h⟩ => ⟨c, e, h2 _ _ h⟩)
theorem RetP.ret {f : FuncId} {args : Array Value} {Φ : Value → World → Prop} {Ψ : List PanicEntry → World → Prop} (h : RetP P f args w Φ Ψ) (hn : ∀ c w', ¬ Ψ c w') : Ret P f args w Φ :=
  Calls.mono h fun _ _ h => h.elim id (fun ⟨c, _, h⟩ => (hn _ _ h).elim)
theorem opcp {rest : List Oper} {o : Oper} {f : FuncId} {args : Array Value} {w' : World} {Φ : Value → World → Prop} {Ψ : List PanicEntry → World → Prop} (hg : o.guard = none) (hrun : (execOp (ev ρ) o).run P w = .ok (.enter f args) w') (hc : RetP P f args w' Φ Ψ)
    (h : ∀ v w2, Φ v w2 → L P n ops rest k Qf (updo ρ o.dst v) ds w2) (hp : ∀ c w2 a, Ψ c w2 → Sim n ρ ds a → Qf (.panic c) a w2) : L P n ops (o :: rest) k Qf ρ ds w := by
  intro hl hk a ha
  simp only [okl, Bool.and_eq_true] at hl
  refine wpList_plain hg fun K hK => ?_
  unfold Oper.wp
  rw [ha.eval, hrun, Oper.upon_enter]
  refine Calls.mono hc fun e w2 h2 => ?_
  rcases h2 with ⟨v, he, hv⟩ | ⟨c, he, hv⟩
  · subst he
    exact hK _ _ (h v w2 hv hl.2 hk _ (ha.put o.dst hl.1 v))
  · subst he
    exact den_panic k c a w2 (hp c w2 a hv ha)
theorem clp {rest : List Oper} {d : Option Nat} {ty : TypeId} {pos : String} {af : Array Edge} {f : FuncId} {xs : Array Operand} {vs : List Value} {ts : Array TypeId} {Φ : Value → World → Prop} {Ψ : List PanicEntry → World → Prop} (hg : Goes P f) (hc : RetP P f vs.toArray w Φ Ψ) (hx : xs.toList.map (ev ρ) = vs) (hp : ∀ c w2 a, Ψ c w2 → Sim n ρ ds a → Qf (.panic c) a w2) (h : ∀ v w', Φ v w' → L P n ops rest k Qf (updo ρ d v) ds w') :
    L P n ops (⟨d, .call ⟨.value (.func f), xs, ts⟩, ty, pos, af, none⟩ :: rest) k Qf ρ ds w := by
  refine opcp (w' := w) (f := f) (args := vs.toArray) rfl ?_ hc h hp
  rw [← arr hx]
  simp [execOp, resolve, Deferred.ofValue, invoke, ev, hg _ w]
theorem clvp {rest : List Oper} {d : Option Nat} {ty : TypeId} {pos : String} {af : Array Edge} {x : Operand} {f : FuncId} {cap : List Value} {xs : Array Operand} {vs : List Value} {ts : Array TypeId} {Φ : Value → World → Prop} {Ψ : List PanicEntry → World → Prop} (hx : ev ρ x = .func (.func f) #[] cap.toArray) (hg : Goes P f) (hxs : xs.toList.map (ev ρ) = vs) (hc : RetP P f (vs ++ cap).toArray w Φ Ψ)
    (hp : ∀ c w2 a, Ψ c w2 → Sim n ρ ds a → Qf (.panic c) a w2) (h : ∀ v w', Φ v w' → L P n ops rest k Qf (updo ρ d v) ds w') :
    L P n ops (⟨d, .call ⟨.value x, xs, ts⟩, ty, pos, af, none⟩ :: rest) k Qf ρ ds w := by
  refine opcp (w' := w) (f := f) (args := (vs ++ cap).toArray) rfl ?_ hc h hp
  have := arr hxs
  simp [execOp, resolve, Deferred.ofValue, invoke, hx, hg _ w, this]
/-- 'panic(x)' of an interface value that is not nil. -/
theorem pnc {rest : List Oper} {d : Option Nat} {ty : TypeId} {pos : String} {af : Array Edge} {x : Operand} {t : TypeId} {v : Value} (hx : ev ρ x = .iface t v) (hp : ∀ a, Sim n ρ ds a → Qf (.panic [{ v := .iface t v, recovered := false }]) a w) : L P n ops (⟨d, .panic x, ty, pos, af, none⟩ :: rest) k Qf ρ ds w := by
  intro hl hk a ha
  refine wpList_plain rfl fun K hK => ?_
  unfold Oper.wp
  have hrun : (execOp (ev ρ) ⟨d, .panic x, ty, pos, af, none⟩).run P w = .halt (.panic (.iface t v)) w := by simp [execOp, hx, Instr.panic, goPanic]
  rw [ha.eval, hrun]
  exact den_panic k _ a w (hp a ha)
/-- What is asked at the end of a function that may panic. -/
def FinP (P : Program) (fn : Func) (Φ : Value → World → Prop) (Ψ : List PanicEntry → World → Prop) : Exit → Act → World → Prop := bodyPost P fn fun e w' => (∃ v, e = .returned v ∧ Φ v w') ∨ (∃ c, e = .panicked c ∧ Ψ c w')
theorem enterP {f : FuncId} {fn : Func} {c : Code} {args : Array Value} {Φ : Value → World → Prop} {Ψ : List PanicEntry → World → Prop} (hf : P.funcs[f]? = some fn) (hb : fn.body = some c) (hn : fn.ntmps = n)
    (hok : okc n c = true) (hs : Nat.ble args.size n = true) (h : S P n [.c c] (FinP P fn Φ Ψ) (ini args) [] w) : RetP P f args w Φ Ψ := by
  refine calls_of_wp hf hb ?_
  have hs' : args.size ≤ n := Nat.le_of_ble_eq_true hs
  refine h (by simp [okk, hok]) _ ⟨by simp [hn]; omega, rfl, fun t => ?_⟩
  simp only [ini, Array.getD_eq_getD_getElem?, Array.getElem?_append]
  split
  · rfl
  · rename_i hlt
    rw [Array.getElem?_eq_none (Nat.le_of_not_lt hlt)]
    simp only [Array.getElem?_replicate]
    split <;> rfl
theorem FinP.panic {fn : Func} {Φ : Value → World → Prop} {Ψ : List PanicEntry → World → Prop} {c : List PanicEntry} {a : Act} (h : Ψ c w) (ha : Sim n ρ [] a) : FinP P fn Φ Ψ (.panic c) a w := ⟨ha.defers, .inr ⟨c, rfl, h⟩⟩
theorem rtp {fn : Func} {Φ : Value → World → Prop} {Ψ : List PanicEntry → World → Prop} (h : S P n [] (FinP P fn Φ Ψ) ρ ds w) : S P n (.c .ret :: k) (FinP P fn Φ Ψ) ρ ds w :=
  fun hk a ha => wp_ret (den_ret k a w (h rfl a ha))
/-- The ends of a function that does not panic serve for one that may. -/
theorem finp {fn : Func} {Φ : Value → World → Prop} {Ψ : List PanicEntry → World → Prop} (h : S P n [] (Fin P fn Φ) ρ [] w) : S P n [] (FinP P fn Φ Ψ) ρ [] w := by
  intro hk a ha
  obtain ⟨h1, v, h2, h3⟩ := h hk a ha
  exact ⟨h1, v, h2, .inl h3⟩
end
end Go.Eng
