/-
  THE ENGINE, OF MY OWN: a frame as a function from slots to values, the code that is left as a list of pieces, a law for each kind of piece. Over any program. No condition.
-/
import Derived.WalkKit
import Derived.KernelRfl
namespace Go.Eng
set_option linter.unusedVariables false

/-- A frame: what each slot holds. -/
abbrev Fr := Nat → Value
def upd (ρ : Fr) (d : Nat) (v : Value) : Fr := fun s => cond (Nat.beq s d) v (ρ s)
def updo (ρ : Fr) : Option Nat → Value → Fr
  | some d, v => upd ρ d v
  | none, _ => ρ
def ev (ρ : Fr) : Operand → Value
  | .tmp t => ρ t
  | .const v => v
  | .global g => .pointer (some ⟨g, 0, none⟩)
  | .func f => .func (.func f) #[] #[]
def okd (n : Nat) : Option Nat → Bool
  | some d => Nat.blt d n
  | none => true

structure Sim (n : Nat) (ρ : Fr) (ds : List Deferred) (a : Act) : Prop where
  size : a.tmps.size = n
  defers : a.defers = ds
  slot : ∀ t, a.tmps.getD t undef = ρ t

theorem Sim.eval {n : Nat} {ρ : Fr} {ds : List Deferred} {a : Act} (h : Sim n ρ ds a) : a.eval = ev ρ := by
  funext x
  cases x with
  | tmp t => exact h.slot t
  | const v => rfl
  | global g => rfl
  | func f => rfl

theorem Sim.put {n : Nat} {ρ : Fr} {ds : List Deferred} {a : Act} (h : Sim n ρ ds a) (d : Option Nat) (hd : okd n d = true) (v : Value) : Sim n (updo ρ d v) ds (a.put d v) := by
  cases d with
  | none => exact h
  | some d =>
    have hlt : d < n := by simpa [okd, Nat.blt_eq] using hd
    refine ⟨by simp [Act.put, h.size], h.defers, fun t => ?_⟩
    have hs := h.slot t
    simp only [Act.put, updo, upd, Array.getD_eq_getD_getElem?, Array.getElem?_setIfInBounds] at hs ⊢
    by_cases e : d = t
    · subst e
      simp [h.size, hlt]
    · have hb : Nat.beq t d = false := by
        rw [Bool.eq_false_iff]
        exact fun h => e (Nat.eq_of_beq_eq_true h).symm
      rw [if_neg e, hb]
      exact hs

/-- What is left to do. -/
inductive It where
  | c (c : Code)
  | b (id : Nat)
  | l (J : Act → World → Prop)

def okl (n : Nat) : List Oper → Bool
  | [] => true
  | o :: r => okd n o.dst && okl n r
def okc (n : Nat) : Code → Bool
  | .region _ ops _ => okl n ops.toList
  | .seq a b => okc n a && okc n b
  | .cond _ a b => okc n a && okc n b
  | .block _ c => okc n c
  | .loop c => okc n c
  | .scope c => okc n c
  | _ => true
def okk (n : Nat) : List It → Bool
  | [] => true
  | .c c :: k => okc n c && okk n k
  | _ :: k => okk n k

section
variable (P : Program)
def den (Qf : Exit → Act → World → Prop) : List It → Exit → Act → World → Prop
  | [] => Qf
  | .c y :: k => Exit.then (y.wp P (den Qf k)) (den Qf k)
  | .b id :: k => Exit.inBlock id (den Qf k)
  | .l J :: k => Exit.then J (den Qf k)

/-- From here on, whatever is left comes to what is asked. -/
def S (n : Nat) (k : List It) (Qf : Exit → Act → World → Prop) (ρ : Fr) (ds : List Deferred) (w : World) : Prop :=
  okk n k = true → ∀ a, Sim n ρ ds a → den P Qf k .normal a w
/-- The same in the middle of a region. -/
def L (n : Nat) (ops : Array Oper) (rest : List Oper) (k : List It) (Qf : Exit → Act → World → Prop) (ρ : Fr) (ds : List Deferred) (w : World) : Prop :=
  okl n rest = true → okk n k = true → ∀ a, Sim n ρ ds a → wpList P ops (den P Qf k) rest a w
end

section
variable {P : Program} {n : Nat} {k : List It} {Qf : Exit → Act → World → Prop} {ρ : Fr} {ds : List Deferred} {w : World}

theorem sq {x y : Code} (h : S P n (.c x :: .c y :: k) Qf ρ ds w) : S P n (.c (.seq x y) :: k) Qf ρ ds w := by
  intro hk a ha
  simp only [okk, okc, Bool.and_eq_true] at hk
  exact wp_seq (h (by simp [okk, hk]) a ha)
theorem sk (h : S P n k Qf ρ ds w) : S P n (.c .skip :: k) Qf ρ ds w := fun hk a ha => wp_skip (h (by simpa [okk, okc] using hk) a ha)
theorem bl {id : Nat} {c : Code} (h : S P n (.c c :: .b id :: k) Qf ρ ds w) : S P n (.c (.block id c) :: k) Qf ρ ds w :=
  fun hk a ha => wp_block (h (by simpa [okk, okc] using hk) a ha)
/-- A block's end. -/
theorem be {id : Nat} (h : S P n k Qf ρ ds w) : S P n (.b id :: k) Qf ρ ds w := fun hk a ha => h (by simpa [okk] using hk) a ha

def dropTo (id : Nat) : List It → Option (List It)
  | [] => none
  | .b i :: k => if id = i then some k else dropTo id k
  | _ :: k => dropTo id k
theorem okk_dropTo {id : Nat} {k k' : List It} (h : dropTo id k = some k') (hk : okk n k = true) : okk n k' = true := by
  induction k with
  | nil => cases h
  | cons x k ih =>
    cases x with
    | c y => simp only [okk, Bool.and_eq_true] at hk; exact ih h hk.2
    | l J => exact ih h hk
    | b i =>
      simp only [dropTo] at h
      split at h
      · injection h with h; subst h; exact hk
      · exact ih h hk
theorem den_exit {id : Nat} {k k' : List It} (h : dropTo id k = some k') (a : Act) (w : World) (hd : den P Qf k' .normal a w) : den P Qf k (.exit id) a w := by
  induction k with
  | nil => cases h
  | cons x k ih =>
    cases x with
    | c y => exact ih h
    | l J => exact ih h
    | b i =>
      simp only [dropTo] at h
      simp only [den, Exit.inBlock]
      split at h
      · rename_i e; injection h with h; subst h; rw [if_pos e]; exact hd
      · rename_i e; rw [if_neg e]; exact ih h
theorem ex {id : Nat} {k' : List It} (hd : dropTo id k = some k') (h : S P n k' Qf ρ ds w) : S P n (.c (.exit id) :: k) Qf ρ ds w :=
  fun hk a ha => wp_exit (den_exit hd a w (h (okk_dropTo hd (by simpa [okk, okc] using hk)) a ha))
theorem den_ret (k : List It) (a : Act) (w : World) (h : Qf .ret a w) : den P Qf k .ret a w := by
  induction k with
  | nil => exact h
  | cons x k ih => cases x <;> exact ih
theorem den_panic (k : List It) (ch : List PanicEntry) (a : Act) (w : World) (h : Qf (.panic ch) a w) : den P Qf k (.panic ch) a w := by
  induction k with
  | nil => exact h
  | cons x k ih => cases x <;> exact ih
theorem den_outgrown (k : List It) (a : Act) (w : World) (h : Qf .outgrown a w) : den P Qf k .outgrown a w := by
  induction k with
  | nil => exact h
  | cons x k ih => cases x <;> exact ih

theorem cd {c : Operand} {x y : Code} {t : Bool} (hc : ev ρ c = .bool t) (ht : t = true → S P n (.c x :: k) Qf ρ ds w) (hf : t = false → S P n (.c y :: k) Qf ρ ds w) :
    S P n (.c (.cond c x y) :: k) Qf ρ ds w := by
  intro hk a ha
  simp only [okk, okc, Bool.and_eq_true] at hk
  refine wp_cond_split (t := t) (by rw [ha.eval]; exact hc) (fun e => ht e (by simp [okk, hk]) a ha) (fun e => hf e (by simp [okk, hk]) a ha)
theorem ct {c : Operand} {x y : Code} (hc : ev ρ c = .bool true) (h : S P n (.c x :: k) Qf ρ ds w) : S P n (.c (.cond c x y) :: k) Qf ρ ds w := cd hc (fun _ => h) (fun e => by cases e)
theorem cf {c : Operand} {x y : Code} (hc : ev ρ c = .bool false) (h : S P n (.c y :: k) Qf ρ ds w) : S P n (.c (.cond c x y) :: k) Qf ρ ds w := cd hc (fun e => by cases e) (fun _ => h)
/-- A test on a proposition. -/
theorem cp {c : Operand} {x y : Code} {p : Prop} [Decidable p] (hc : ev ρ c = .bool (decide p)) (ht : p → S P n (.c x :: k) Qf ρ ds w) (hf : ¬ p → S P n (.c y :: k) Qf ρ ds w) :
    S P n (.c (.cond c x y) :: k) Qf ρ ds w := cd hc (fun e => ht (of_decide_eq_true e)) (fun e => hf (of_decide_eq_false e))
/-- Its negation. -/
theorem cpn {c : Operand} {x y : Code} {p : Prop} [Decidable p] (hc : ev ρ c = .bool (!decide p)) (ht : ¬ p → S P n (.c x :: k) Qf ρ ds w) (hf : p → S P n (.c y :: k) Qf ρ ds w) :
    S P n (.c (.cond c x y) :: k) Qf ρ ds w := cd hc (fun e => ht (by simpa using e)) (fun e => hf (by simpa using e))

/-- The frame is forgotten, but for what I says of it. -/
theorem gen (I : Fr → Prop) (h0 : I ρ) (h : ∀ ρ', I ρ' → S P n k Qf ρ' ds w) : S P n k Qf ρ ds w := h ρ h0
/-- A region. -/
theorem rg {id : Nat} {l : List Oper} (h : L P n l.toArray l k Qf ρ ds w) : S P n (.c (.region id l.toArray false) :: k) Qf ρ ds w := by
  intro hk a ha
  simp only [okk, okc, Bool.and_eq_true] at hk
  exact wp_region_lit (h (by simpa using hk.1) hk.2 a ha)
/-- Its end. -/
theorem re {ops : Array Oper} (h : S P n k Qf ρ ds w) : L P n ops [] k Qf ρ ds w := fun _ hk a ha => wpList_nil (h hk a ha)

/-! ### Loops -/
theorem least {p : Nat → Prop} (h : ∃ m, p m) : ∃ m, p m ∧ ∀ j, p j → m ≤ j := by
  obtain ⟨m, hm⟩ := h
  induction m using Nat.strongRecOn with
  | _ m ih =>
    by_cases e : ∃ j, j < m ∧ p j
    · obtain ⟨j, hj, hp⟩ := e
      exact ih j hj hp
    · exact ⟨m, hm, fun j hj => Nat.le_of_not_lt fun hl => e ⟨j, hl, hj⟩⟩
/-- A round has come to its end: the state goes on. -/
def Again {α : Type} (n : Nat) (ds : List Deferred) (I : α → Fr → World → Prop) (μ : α → Nat) (m : Nat) : Act → World → Prop :=
  fun a w => ∃ y ρ, Sim n ρ ds a ∧ I y ρ w ∧ μ y < m
theorem lp {α : Type} {c : Code} (I : α → Fr → World → Prop) (μ : α → Nat) (x0 : α) (h0 : I x0 ρ w)
    (body : ∀ x ρ' w', I x ρ' w' → S P n (.c c :: .l (Again n ds I μ (μ x)) :: k) Qf ρ' ds w') : S P n (.c (.loop c) :: k) Qf ρ ds w := by
  intro hk a ha
  simp only [okk, okc, Bool.and_eq_true] at hk
  let st : Act → World → Nat → Prop := fun a w m => ∃ x ρ, Sim n ρ ds a ∧ I x ρ w ∧ μ x = m
  let mu : Act → World → Nat := fun a w => open Classical in if h : ∃ m, st a w m then (least h).choose else 0
  refine wp_loop (fun a w => ∃ x ρ, Sim n ρ ds a ∧ I x ρ w) mu ⟨x0, ρ, ha, h0⟩ ?_
  rintro a w ⟨x, ρ', hs, hI⟩
  have hex : ∃ m, st a w m := ⟨_, x, ρ', hs, hI, rfl⟩
  have hmu : mu a w = (least hex).choose := dif_pos hex
  obtain ⟨⟨x1, ρ1, hs1, hI1, hm1⟩, hle⟩ := (least hex).choose_spec
  have hb := body x1 ρ1 w hI1 (by simp [okk, hk]) a hs1
  refine wp_mono hb (fun e a' w' he => ?_)
  cases e with
  | normal =>
    obtain ⟨y, ρ2, hs2, hI2, hlt⟩ := he
    refine ⟨⟨y, ρ2, hs2, hI2⟩, ?_⟩
    have hex' : ∃ m, st a' w' m := ⟨_, y, ρ2, hs2, hI2, rfl⟩
    have hmu' : mu a' w' = (least hex').choose := dif_pos hex'
    rw [hmu, hmu', ← hm1]
    exact Nat.lt_of_le_of_lt ((least hex').choose_spec.2 _ ⟨y, ρ2, hs2, hI2, rfl⟩) hlt
  | exit id => exact he
  | goto l => exact he
  | ret => exact he
  | panic ch => exact he
  | outgrown => exact he
theorem ag {α : Type} {I : α → Fr → World → Prop} {μ : α → Nat} {m : Nat} (y : α) (hI : I y ρ w) (hm : μ y < m) : S P n (.l (Again n ds I μ m) :: k) Qf ρ ds w :=
  fun _ a ha => ⟨y, ρ, ha, hI, hm⟩
/-- A loop that goes once. -/
theorem lp1 {c : Code} (h : S P n (.c c :: .l (fun _ _ => False) :: k) Qf ρ ds w) : S P n (.c (.loop c) :: k) Qf ρ ds w := by
  intro hk a ha
  simp only [okk, okc, Bool.and_eq_true] at hk
  exact wp_loop_once (h (by simp [okk, hk]) a ha)
/-- The frame forgets. -/
theorem fg {ρ' : Fr} (e : ρ = ρ') (h : S P n k Qf ρ' ds w) : S P n k Qf ρ ds w := e ▸ h

/-! ### Entering and leaving a function -/
/-- The call returns, and this is so. -/
def Ret (P : Program) (f : FuncId) (args : Array Value) (w : World) (Φ : Value → World → Prop) : Prop := Calls P f args w fun e w' => ∃ v, e = .returned v ∧ Φ v w'
theorem Ret.mono {f : FuncId} {args : Array Value} {Φ Φ' : Value → World → Prop} (h : Ret P f args w Φ) (hm : ∀ v w', Φ v w' → Φ' v w') : Ret P f args w Φ' :=
  Calls.mono h fun _ _ ⟨v, e, hv⟩ => ⟨v, e, hm _ _ hv⟩
/-- What is asked at a function's end. -/
def Fin (P : Program) (fn : Func) (Φ : Value → World → Prop) : Exit → Act → World → Prop := bodyPost P fn fun e w' => ∃ v, e = .returned v ∧ Φ v w'
def ini (args : Array Value) : Fr := fun t => args.getD t undef
theorem enter {f : FuncId} {fn : Func} {c : Code} {args : Array Value} {Φ : Value → World → Prop} (hf : P.funcs[f]? = some fn) (hb : fn.body = some c) (hn : fn.ntmps = n)
    (hok : okc n c = true) (hs : Nat.ble args.size n = true) (h : S P n [.c c] (Fin P fn Φ) (ini args) [] w) : Ret P f args w Φ := by
  refine calls_of_wp hf hb ?_
  have hs' : args.size ≤ n := Nat.le_of_ble_eq_true hs
  refine h (by simp [okk, hok]) _ ⟨by simp [hn]; omega, rfl, fun t => ?_⟩
  simp only [ini, Array.getD_eq_getD_getElem?, Array.getElem?_append]
  split
  · rfl
  · rename_i hlt
    rw [Array.getElem?_eq_none (Nat.le_of_not_lt hlt)]
    simp only [Array.getElem?_replicate]
    split <;> rfl

theorem rt {fn : Func} {Φ : Value → World → Prop} (h : S P n [] (Fin P fn Φ) ρ ds w) : S P n (.c .ret :: k) (Fin P fn Φ) ρ ds w :=
  fun hk a ha => wp_ret (den_ret k a w (h rfl a ha))
theorem fin1 {fn : Func} {Φ : Value → World → Prop} {t : Nat} {v : Value} (hr : fn.results = #[.tmp t]) (hv : ρ t = v) (h : Φ v w) : S P n [] (Fin P fn Φ) ρ [] w := by
  intro _ a ha
  refine ⟨ha.defers, _, results_tmp hr _ _ _, _, rfl, ?_⟩
  rw [ha.slot, hv]; exact h
theorem fin2 {fn : Func} {Φ : Value → World → Prop} {t u : Nat} {v v' : Value} (hr : fn.results = #[.tmp t, .tmp u]) (hv : ρ t = v) (hv' : ρ u = v') (h : Φ (.tuple #[v, v']) w) : S P n [] (Fin P fn Φ) ρ [] w := by
  intro _ a ha
  refine ⟨ha.defers, _, results_tmp2 hr _ _ _, _, rfl, ?_⟩
  rw [ha.slot, ha.slot, hv, hv']; exact h
theorem fin0 {fn : Func} {Φ : Value → World → Prop} (hr : fn.results = #[]) (h : Φ (.tuple #[]) w) : S P n [] (Fin P fn Φ) ρ [] w :=
  fun _ a ha => ⟨ha.defers, _, results_none hr _ _ _, _, rfl, h⟩
/-- Results of whatever make. -/
theorem fing {fn : Func} {Φ : Value → World → Prop} {v : Value} (hr : ∀ tmps : Array Value, (∀ t, tmps.getD t undef = ρ t) → (results fn tmps).run P w = .ok v w) (h : Φ v w) : S P n [] (Fin P fn Φ) ρ [] w :=
  fun _ a ha => ⟨ha.defers, _, hr _ ha.slot, _, rfl, h⟩

/-! ### Operations -/
variable {ops : Array Oper} {rest : List Oper}
theorem opv {o : Oper} {v : Value} {w' : World} (hg : o.guard = none) (hrun : (execOp (ev ρ) o).run P w = .ok (.value v) w') (h : L P n ops rest k Qf (updo ρ o.dst v) ds w') : L P n ops (o :: rest) k Qf ρ ds w := by
  intro hl hk a ha
  simp only [okl, Bool.and_eq_true] at hl
  refine wpList_plain hg fun K hK => ?_
  unfold Oper.wp
  rw [ha.eval, hrun]
  exact hK _ _ (h hl.2 hk _ (ha.put o.dst hl.1 v))
theorem ops_ {o : Oper} {w' : World} (hg : o.guard = none) (hrun : (execOp (ev ρ) o).run P w = .ok .skip w') (h : L P n ops rest k Qf (updo ρ o.dst undef) ds w') : L P n ops (o :: rest) k Qf ρ ds w := by
  intro hl hk a ha
  simp only [okl, Bool.and_eq_true] at hl
  refine wpList_plain hg fun K hK => ?_
  unfold Oper.wp
  rw [ha.eval, hrun]
  exact hK _ _ (h hl.2 hk _ (ha.put o.dst hl.1 undef))
theorem opc {o : Oper} {f : FuncId} {args : Array Value} {w' : World} {Φ : Value → World → Prop} (hg : o.guard = none) (hrun : (execOp (ev ρ) o).run P w = .ok (.enter f args) w') (hc : Ret P f args w' Φ)
    (h : ∀ v w2, Φ v w2 → L P n ops rest k Qf (updo ρ o.dst v) ds w2) : L P n ops (o :: rest) k Qf ρ ds w := by
  intro hl hk a ha
  simp only [okl, Bool.and_eq_true] at hl
  refine wpList_plain hg fun K hK => ?_
  unfold Oper.wp
  rw [ha.eval, hrun, Oper.upon_enter]
  refine Calls.mono hc fun e w2 ⟨v, he, hv⟩ => ?_
  subst he
  exact hK _ _ (h v w2 hv hl.2 hk _ (ha.put o.dst hl.1 v))
/-- A guard that says yes; one that says no. -/
theorem gy {d : Option Nat} {op : Op} {ty : TypeId} {pos : String} {af : Array Edge} {j t : Nat} {b : Bool} (hj : (ops[j]?).bind (·.dst) = some t) (ht : ρ t = .bool b) (hn : Nat.blt t n = true)
    (h : L P n ops (⟨d, op, ty, pos, af, none⟩ :: rest) k Qf ρ ds w) : L P n ops (⟨d, op, ty, pos, af, some (j, b)⟩ :: rest) k Qf ρ ds w := by
  intro hl hk a ha
  have hlt : t < a.tmps.size := by rw [ha.size]; simpa [Nat.blt_eq] using hn
  have hy : yielded ops a.tmps j = some b := by
    have h1 := ha.slot t
    rw [ht, Array.getD_eq_getD_getElem?, Array.getElem?_eq_getElem hlt] at h1
    simp only [Option.getD_some] at h1
    simp [yielded, hj, Array.getElem?_eq_getElem hlt, h1]
  have := h hl hk a ha
  simp only [wpList, Region.wanted, hy, beq_self_eq_true, if_true] at this ⊢
  exact this
theorem gn {d : Option Nat} {op : Op} {ty : TypeId} {pos : String} {af : Array Edge} {j t : Nat} {b : Bool} (hj : (ops[j]?).bind (·.dst) = some t) (ht : ρ t = .bool (!b)) (hn : Nat.blt t n = true)
    (h : L P n ops rest k Qf (updo ρ d undef) ds w) : L P n ops (⟨d, op, ty, pos, af, some (j, b)⟩ :: rest) k Qf ρ ds w := by
  intro hl hk a ha
  simp only [okl, Bool.and_eq_true] at hl
  have hlt : t < a.tmps.size := by rw [ha.size]; simpa [Nat.blt_eq] using hn
  have hy : yielded ops a.tmps j = some (!b) := by
    have h1 := ha.slot t
    rw [ht, Array.getD_eq_getD_getElem?, Array.getElem?_eq_getElem hlt] at h1
    simp only [Option.getD_some] at h1
    simp [yielded, hj, Array.getElem?_eq_getElem hlt, h1]
  have hne : ¬ Region.wanted ⟨d, op, ty, pos, af, some (j, b)⟩ (yielded ops a.tmps) = true := by cases b <;> simp [Region.wanted, hy]
  unfold wpList
  rw [if_neg hne]
  exact h hl.2 hk _ (ha.put d hl.1 undef)
/-- A guard whose Bool is itself 'undef' (its own operation was passed over): no. -/
theorem gu {d : Option Nat} {op : Op} {ty : TypeId} {pos : String} {af : Array Edge} {j t : Nat} {b : Bool} (hj : (ops[j]?).bind (·.dst) = some t) (ht : ρ t = undef) (hn : Nat.blt t n = true)
    (h : L P n ops rest k Qf (updo ρ d undef) ds w) : L P n ops (⟨d, op, ty, pos, af, some (j, b)⟩ :: rest) k Qf ρ ds w := by
  intro hl hk a ha
  simp only [okl, Bool.and_eq_true] at hl
  have hlt : t < a.tmps.size := by rw [ha.size]; simpa [Nat.blt_eq] using hn
  have hy : yielded ops a.tmps j = none := by
    have h1 := ha.slot t
    rw [ht, Array.getD_eq_getD_getElem?, Array.getElem?_eq_getElem hlt] at h1
    simp only [Option.getD_some] at h1
    simp [yielded, hj, Array.getElem?_eq_getElem hlt, h1, undef]
  have hne : ¬ Region.wanted ⟨d, op, ty, pos, af, some (j, b)⟩ (yielded ops a.tmps) = true := by simp [Region.wanted, hy]
  unfold wpList
  rw [if_neg hne]
  exact h hl.2 hk _ (ha.put d hl.1 undef)
end
end Go.Eng
