/-
  REGIONS WHOSE ORDER IS DRAWN AND WHOSE OPERATIONS MAKE OR CHANGE MEMORY, OF MY OWN: what reads is taken first, what acts in each order that may come. Over any program. No condition.
-/
import Derived.Test.YtgpcanjmgdmdhaaDoorApp
import Derived.OrdersHeld
namespace Go.Eng
set_option linter.unusedVariables false
set_option linter.unusedSimpArgs false

section
variable {P : Program} {n : Nat} {k : List It} {Qf : Exit → Act → World → Prop} {ρ : Fr} {ds : List Deferred} {w : World} {ops : Array Oper} {K : Fr → World → Prop} {S' : World → Prop} {fuel : Nat} {listed : Array Bool}

def Dq (n : Nat) (ds : List Deferred) (K : Fr → World → Prop) : Exit → Act → World → Prop := fun e a w => e = .normal ∧ ∃ ρ, Sim n ρ ds a ∧ K ρ w
/-- From here on whatever comes up next comes to what is asked. S': what holds of the world all the while. -/
def D (P : Program) (n : Nat) (ops : Array Oper) (K : Fr → World → Prop) (S' : World → Prop) (fuel : Nat) (listed : Array Bool) (ρ : Fr) (ds : List Deferred) (w : World) : Prop :=
  okl n ops.toList = true → S' w → ∀ a, Sim n ρ ds a → wpAnyH P .any ops (Dq n ds K) S' fuel listed a w
theorem okl_at {l : List Oper} (h : okl n l = true) {i : Nat} {o : Oper} (hi : l[i]? = some o) : okd n o.dst = true := by
  induction l generalizing i with
  | nil => cases hi
  | cons x l ih =>
    simp only [okl, Bool.and_eq_true] at h
    cases i with
    | zero => simp only [List.getElem?_cons_zero, Option.some.injEq] at hi; subst hi; exact h.1
    | succ i => exact ih h.2 (by simpa using hi)
theorem rdd {id : Nat} {l : List Oper} (hm : P.follows .mixedOrders = true)
    (h : ∀ w1, Ch [] w w1 → D P n l.toArray (fun ρ' w' => S P n k Qf ρ' ds w') (fun w' => Ch [] w1 w') l.length (Array.replicate l.length false) ρ ds w1) : S P n (.c (.region id l.toArray true) :: k) Qf ρ ds w := by
  intro hk a ha
  simp only [okk, okc, Bool.and_eq_true] at hk
  have hh := h { w with drawn := w.drawn + 1 } (ch_drew w (w.drawn + 1)) hk.1 (Ch.refl _ _) a ha
  refine wp_mono (Q := Dq n ds (fun ρ' w' => S P n k Qf ρ' ds w')) ?_ ?_
  · refine wp_region_held (S := fun w' => Ch [] { w with drawn := w.drawn + 1 } w') hm ?_
    simpa using hh
  · rintro e a' w' ⟨rfl, ρ', hs, hK⟩
    exact hK hk.2 a' hs
/-- What only reads is taken first. -/
theorem dtv (i : Nat) {oi : Oper} {v : Value} (hi : ops[i]? = some oi) (hc : (Region.noSelect ops && Region.free .any ops listed i && (Region.ready .any ops listed).contains i) = true)
    (hy : ∀ a, Sim n ρ ds a → YieldsIf P ops S' oi v a) (h : D P n ops K S' fuel (listed.setIfInBounds i true) (updo ρ oi.dst v) ds w) : D P n ops K S' (fuel + 1) listed ρ ds w := by
  intro hl hS a ha
  simp only [Bool.and_eq_true] at hc
  refine wpAnyH_take hi hc.1.1 hc.1.2 hc.2 (fun c a w hq => absurd hq.1 (by simp)) (hy a ha) hS ?_
  exact h hl hS _ (ha.put oi.dst (okl_at hl (by simpa using hi)) v)
theorem dt (i : Nat) {oi : Oper} {v : Value} (hi : ops[i]? = some oi) (hc : (Region.noSelect ops && Region.free .any ops listed i && (Region.ready .any ops listed).contains i) = true)
    (hr : oi.guard = none ∧ ∀ w', S' w' → (execOp (ev ρ) oi).run P w' = .ok (.value v) w') (h : D P n ops K S' fuel (listed.setIfInBounds i true) (updo ρ oi.dst v) ds w) : D P n ops K S' (fuel + 1) listed ρ ds w :=
  dtv i hi hc (fun a ha => .inl ⟨by simp [Region.wanted, hr.1], fun w' hw => by rw [ha.eval]; exact hr.2 w' hw⟩) h
theorem dty (i : Nat) {d : Option Nat} {op : Op} {ty : TypeId} {pos : String} {af : Array Edge} {j t : Nat} {b : Bool} {v : Value} (hi : ops[i]? = some ⟨d, op, ty, pos, af, some (j, b)⟩) (hc : (Region.noSelect ops && Region.free .any ops listed i && (Region.ready .any ops listed).contains i) = true)
    (hj : (ops[j]?).bind (·.dst) = some t) (ht : ρ t = .bool b) (hn : Nat.blt t n = true) (hr : (⟨d, op, ty, pos, af, none⟩ : Oper).guard = none ∧ ∀ w', S' w' → (execOp (ev ρ) ⟨d, op, ty, pos, af, none⟩).run P w' = .ok (.value v) w')
    (h : D P n ops K S' fuel (listed.setIfInBounds i true) (updo ρ d v) ds w) : D P n ops K S' (fuel + 1) listed ρ ds w := by
  refine dtv i hi hc (fun a ha => .inl ⟨?_, fun w' hw => ?_⟩) h
  · simp [Region.wanted, yld (ops := ops) ha hj ht hn, vb]
  · rw [ha.eval]; exact hr.2 w' hw
theorem dtn (i : Nat) {d : Option Nat} {op : Op} {ty : TypeId} {pos : String} {af : Array Edge} {j t : Nat} {b : Bool} (hi : ops[i]? = some ⟨d, op, ty, pos, af, some (j, b)⟩) (hc : (Region.noSelect ops && Region.free .any ops listed i && (Region.ready .any ops listed).contains i) = true)
    (hj : (ops[j]?).bind (·.dst) = some t) (ht : ρ t = .bool (!b)) (hn : Nat.blt t n = true)
    (h : D P n ops K S' fuel (listed.setIfInBounds i true) (updo ρ d undef) ds w) : D P n ops K S' (fuel + 1) listed ρ ds w := by
  refine dtv i hi hc (fun a ha => .inr ⟨?_, rfl⟩) h
  have hy := yld (ops := ops) ha hj ht hn
  cases b <;> simp [Region.wanted, hy, vb]
theorem dtu (i : Nat) {d : Option Nat} {op : Op} {ty : TypeId} {pos : String} {af : Array Edge} {j t : Nat} {b : Bool} (hi : ops[i]? = some ⟨d, op, ty, pos, af, some (j, b)⟩) (hc : (Region.noSelect ops && Region.free .any ops listed i && (Region.ready .any ops listed).contains i) = true)
    (hj : (ops[j]?).bind (·.dst) = some t) (ht : ρ t = undef) (hn : Nat.blt t n = true)
    (h : D P n ops K S' fuel (listed.setIfInBounds i true) (updo ρ d undef) ds w) : D P n ops K S' (fuel + 1) listed ρ ds w := by
  refine dtv i hi hc (fun a ha => .inr ⟨?_, rfl⟩) h
  have hy := yld (ops := ops) ha hj ht hn
  simp [Region.wanted, hy, undef, vb]
/-- A Bool in a slot is parted. -/
theorem spd (t : Nat) {p : Prop} [Decidable p] (ht : ρ t = .bool (decide p)) (hT : p → D P n ops K S' fuel listed (upd ρ t (.bool true)) ds w) (hF : ¬ p → D P n ops K S' fuel listed (upd ρ t (.bool false)) ds w) : D P n ops K S' fuel listed ρ ds w := by
  by_cases h : p
  · have := hT h; rwa [upd_self ρ t _ (by rw [ht, decide_eq_true h])] at this
  · have := hF h; rwa [upd_self ρ t _ (by rw [ht, decide_eq_false h])] at this
theorem spnd (t : Nat) {p : Prop} [Decidable p] (ht : ρ t = .bool (!decide p)) (hT : ¬ p → D P n ops K S' fuel listed (upd ρ t (.bool true)) ds w) (hF : p → D P n ops K S' fuel listed (upd ρ t (.bool false)) ds w) : D P n ops K S' fuel listed ρ ds w := by
  by_cases h : p
  · have := hF h; rwa [upd_self ρ t _ (by rw [ht, decide_eq_true h]; rfl)] at this
  · have := hT h; rwa [upd_self ρ t _ (by rw [ht, decide_eq_false h]; rfl)] at this
theorem spbd (t : Nat) {b : Bool} (ht : ρ t = .bool b) (hT : b = true → D P n ops K S' fuel listed (upd ρ t (.bool true)) ds w) (hF : b = false → D P n ops K S' fuel listed (upd ρ t (.bool false)) ds w) : D P n ops K S' fuel listed ρ ds w := by
  cases b
  · have := hF rfl; rwa [upd_self ρ t _ ht] at this
  · have := hT rfl; rwa [upd_self ρ t _ ht] at this
/-- Number i comes up: what it asks. -/
def Up (P : Program) (n : Nat) (ops : Array Oper) (K : Fr → World → Prop) (S' : World → Prop) (fuel : Nat) (listed : Array Bool) (i : Nat) (ρ : Fr) (ds : List Deferred) (w : World) : Prop :=
  okl n ops.toList = true → S' w → ∀ a, Sim n ρ ds a → wpOp P ops (Dq n ds K) i (fun a' w' => S' w' ∧ wpAnyH P .any ops (Dq n ds K) S' fuel (listed.setIfInBounds i true) a' w') a w
/-- One of several that may come up. -/
theorem da (rs : List Nat) (hc : (Region.ready .any ops listed == rs && !rs.isEmpty) = true) (h : ∀ i, i ∈ rs → Up P n ops K S' fuel listed i ρ ds w) : D P n ops K S' (fuel + 1) listed ρ ds w := by
  intro hl hS a ha
  simp only [Bool.and_eq_true, beq_iff_eq, Bool.not_eq_true', List.isEmpty_eq_false_iff] at hc
  exact wpAnyH_all hc.1 hc.2 (fun i hi => h i hi hl hS a ha)
theorem d1 (i : Nat) (hc : (Region.ready .any ops listed == [i]) = true) (h : Up P n ops K S' fuel listed i ρ ds w) : D P n ops K S' (fuel + 1) listed ρ ds w :=
  da [i] (by simp only [beq_iff_eq] at hc; simp [hc]) (fun j hj => by rw [List.mem_singleton.1 hj]; exact h)
/-- All have come up. -/
theorem dd (hc : (Region.ready .any ops listed).isEmpty = true) (h : S' w → K ρ w) : D P n ops K S' fuel listed ρ ds w := by
  intro hl hS a ha
  exact wpAnyH_done (by simpa using hc) ⟨rfl, ρ, ha, h hS⟩ fuel
/-- An operation that comes to a value, and to a world. -/
theorem uv {i : Nat} {oi : Oper} {v : Value} {w' : World} (hi : ops[i]? = some oi) (hg : oi.guard = none) (hr : (execOp (ev ρ) oi).run P w = .ok (.value v) w') (hS : S' w') (h : D P n ops K S' fuel (listed.setIfInBounds i true) (updo ρ oi.dst v) ds w') : Up P n ops K S' fuel listed i ρ ds w := by
  intro hl hS0 a ha
  unfold wpOp
  simp only [hi, Region.wanted, hg, if_true]
  refine .inl ?_
  unfold Oper.wp
  rw [ha.eval, hr]
  exact ⟨hS, h hl hS _ (ha.put oi.dst (okl_at hl (by simpa using hi)) v)⟩
/-- A store. -/
theorem us {i : Nat} {oi : Oper} {w' : World} (hi : ops[i]? = some oi) (hg : oi.guard = none) (hr : (execOp (ev ρ) oi).run P w = .ok .skip w') (hS : S' w') (h : D P n ops K S' fuel (listed.setIfInBounds i true) (updo ρ oi.dst undef) ds w') : Up P n ops K S' fuel listed i ρ ds w := by
  intro hl hS0 a ha
  unfold wpOp
  simp only [hi, Region.wanted, hg, if_true]
  refine .inl ?_
  unfold Oper.wp
  rw [ha.eval, hr]
  exact ⟨hS, h hl hS _ (ha.put oi.dst (okl_at hl (by simpa using hi)) undef)⟩
/-- A call, by its contract. -/
theorem uc {i : Nat} {d : Option Nat} {ty : TypeId} {pos : String} {af : Array Edge} {f : FuncId} {xs : Array Operand} {vs : List Value} {ts : Array TypeId} {Φ : Value → World → Prop} (hi : ops[i]? = some ⟨d, .call ⟨.value (.func f), xs, ts⟩, ty, pos, af, none⟩) (hg : Goes P f) (hx : xs.toList.map (ev ρ) = vs) (hc : Ret P f vs.toArray w Φ)
    (h : ∀ v w', Φ v w' → S' w' ∧ D P n ops K S' fuel (listed.setIfInBounds i true) (updo ρ d v) ds w') : Up P n ops K S' fuel listed i ρ ds w := by
  intro hl hS0 a ha
  unfold wpOp
  simp only [hi, Region.wanted, if_true]
  refine .inl ?_
  unfold Oper.wp
  have hrun : (execOp (ev ρ) ⟨d, .call ⟨.value (.func f), xs, ts⟩, ty, pos, af, none⟩).run P w = .ok (.enter f vs.toArray) w := by
    rw [← arr hx]
    simp [execOp, resolve, Deferred.ofValue, invoke, ev, hg _ w]
  rw [ha.eval, hrun]
  refine Calls.mono hc fun e w' ⟨v, he, hv⟩ => ?_
  subst he
  obtain ⟨h1, h2⟩ := h v w' hv
  exact ⟨h1, h2 hl h1 _ (ha.put d (okl_at hl (by simpa using hi)) v)⟩
end
end Go.Eng
