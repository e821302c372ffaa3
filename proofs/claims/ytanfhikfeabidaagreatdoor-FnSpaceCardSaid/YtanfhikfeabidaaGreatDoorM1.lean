/-
  SEVERAL TEXTS OF MY OWN IN ONE: Eng, Rep, Ops, App, Ty, 1, 2, 3, 4, 5, Reg, Mem, 6, 7, Nest, 8, 9, 10, 11, 12. No condition.
-/
import Derived.WalkKit
import Derived.KernelRfl
import Derived.Deep.Quiet
import Derived.Maps.AppendAt
import Derived.Test.YtanfhikfeabidaaGreatDoorProg
import Derived.OrdersHeld
import Derived.Great.BuildSlice
namespace Go.Eng
set_option linter.unusedVariables false

/-- A frame: what each slot holds. -/
abbrev Fr := Nat → Value
def upd (ρ : Fr) (d : Nat) (v : Value) : Fr := fun s => cond (Nat.beq s d) v (ρ s)
def updo (ρ : Fr) : Option Nat → Value → Fr
  | some d, v => upd ρ d v
  | none, _ => ρ
def ev (ρ : Fr) : Operand → Value
  | .tmp t => ρ t
  | .const v => v
  | .global g => .pointer (some ⟨g, 0, none⟩)
  | .func f => .func (.func f) #[] #[]
def okd (n : Nat) : Option Nat → Bool
  | some d => Nat.blt d n
  | none => true

structure Sim (n : Nat) (ρ : Fr) (ds : List Deferred) (a : Act) : Prop where
  size : a.tmps.size = n
  defers : a.defers = ds
  slot : ∀ t, a.tmps.getD t undef = ρ t

theorem Sim.eval {n : Nat} {ρ : Fr} {ds : List Deferred} {a : Act} (h : Sim n ρ ds a) : a.eval = ev ρ := by
  funext x
  cases x with
  | tmp t => exact h.slot t
  | const v => rfl
  | global g => rfl
  | func f => rfl

theorem Sim.put {n : Nat} {ρ : Fr} {ds : List Deferred} {a : Act} (h : Sim n ρ ds a) (d : Option Nat) (hd : okd n d = true) (v : Value) : Sim n (updo ρ d v) ds (a.put d v) := by
  cases d with
  | none => exact h
  | some d =>
    have hlt : d < n := by simpa [okd, Nat.blt_eq] using hd
    refine ⟨by simp [Act.put, h.size], h.defers, fun t => ?_⟩
    have hs := h.slot t
    simp only [Act.put, updo, upd, Array.getD_eq_getD_getElem?, Array.getElem?_setIfInBounds] at hs ⊢
    by_cases e : d = t
    · subst e
      simp [h.size, hlt]
    · have hb : Nat.beq t d = false := by
        rw [Bool.eq_false_iff]
        exact fun h => e (Nat.eq_of_beq_eq_true h).symm
      rw [if_neg e, hb]
      exact hs

/-- What is left to do. -/
inductive It where
  | c (c : Code)
  | b (id : Nat)
  | l (J : Act → World → Prop)

def okl (n : Nat) : List Oper → Bool
  | [] => true
  | o :: r => okd n o.dst && okl n r
def okc (n : Nat) : Code → Bool
  | .region _ ops _ => okl n ops.toList
  | .seq a b => okc n a && okc n b
  | .cond _ a b => okc n a && okc n b
  | .block _ c => okc n c
  | .loop c => okc n c
  | .scope c => okc n c
  | _ => true
def okk (n : Nat) : List It → Bool
  | [] => true
  | .c c :: k => okc n c && okk n k
  | _ :: k => okk n k

section
variable (P : Program)
def den (Qf : Exit → Act → World → Prop) : List It → Exit → Act → World → Prop
  | [] => Qf
  | .c y :: k => Exit.then (y.wp P (den Qf k)) (den Qf k)
  | .b id :: k => Exit.inBlock id (den Qf k)
  | .l J :: k => Exit.then J (den Qf k)

/-- From here on, whatever is left comes to what is asked. -/
def S (n : Nat) (k : List It) (Qf : Exit → Act → World → Prop) (ρ : Fr) (ds : List Deferred) (w : World) : Prop :=
  okk n k = true → ∀ a, Sim n ρ ds a → den P Qf k .normal a w
/-- The same in the middle of a region. -/
def L (n : Nat) (ops : Array Oper) (rest : List Oper) (k : List It) (Qf : Exit → Act → World → Prop) (ρ : Fr) (ds : List Deferred) (w : World) : Prop :=
  okl n rest = true → okk n k = true → ∀ a, Sim n ρ ds a → wpList P ops (den P Qf k) rest a w
end

section
variable {P : Program} {n : Nat} {k : List It} {Qf : Exit → Act → World → Prop} {ρ : Fr} {ds : List Deferred} {w : World}

theorem sq {x y : Code} (h : S P n (.c x :: .c y :: k) Qf ρ ds w) : S P n (.c (.seq x y) :: k) Qf ρ ds w := by
  intro hk a ha
  simp only [okk, okc, Bool.and_eq_true] at hk
  exact wp_seq (h (by simp [okk, hk]) a ha)
theorem sk (h : S P n k Qf ρ ds w) : S P n (.c .skip :: k) Qf ρ ds w := fun hk a ha => wp_skip (h (by simpa [okk, okc] using hk) a ha)
theorem bl {id : Nat} {c : Code} (h : S P n (.c c :: .b id :: k) Qf ρ ds w) : S P n (.c (.block id c) :: k) Qf ρ ds w :=
  fun hk a ha => wp_block (h (by simpa [okk, okc] using hk) a ha)
/-- A block's end. -/
theorem be {id : Nat} (h : S P n k Qf ρ ds w) : S P n (.b id :: k) Qf ρ ds w := fun hk a ha => h (by simpa [okk] using hk) a ha

def dropTo (id : Nat) : List It → Option (List It)
  | [] => none
  | .b i :: k => if id = i then some k else dropTo id k
  | _ :: k => dropTo id k
theorem okk_dropTo {id : Nat} {k k' : List It} (h : dropTo id k = some k') (hk : okk n k = true) : okk n k' = true := by
  induction k with
  | nil => cases h
  | cons x k ih =>
    cases x with
    | c y => simp only [okk, Bool.and_eq_true] at hk; exact ih h hk.2
    | l J => exact ih h hk
    | b i =>
      simp only [dropTo] at h
      split at h
      · injection h with h; subst h; exact hk
      · exact ih h hk
theorem den_exit {id : Nat} {k k' : List It} (h : dropTo id k = some k') (a : Act) (w : World) (hd : den P Qf k' .normal a w) : den P Qf k (.exit id) a w := by
  induction k with
  | nil => cases h
  | cons x k ih =>
    cases x with
    | c y => exact ih h
    | l J => exact ih h
    | b i =>
      simp only [dropTo] at h
      simp only [den, Exit.inBlock]
      split at h
      · rename_i e; injection h with h; subst h; rw [if_pos e]; exact hd
      · rename_i e; rw [if_neg e]; exact ih h
theorem ex {id : Nat} {k' : List It} (hd : dropTo id k = some k') (h : S P n k' Qf ρ ds w) : S P n (.c (.exit id) :: k) Qf ρ ds w :=
  fun hk a ha => wp_exit (den_exit hd a w (h (okk_dropTo hd (by simpa [okk, okc] using hk)) a ha))
theorem den_ret (k : List It) (a : Act) (w : World) (h : Qf .ret a w) : den P Qf k .ret a w := by
  induction k with
  | nil => exact h
  | cons x k ih => cases x <;> exact ih
theorem den_panic (k : List It) (ch : List PanicEntry) (a : Act) (w : World) (h : Qf (.panic ch) a w) : den P Qf k (.panic ch) a w := by
  induction k with
  | nil => exact h
  | cons x k ih => cases x <;> exact ih
theorem cd {c : Operand} {x y : Code} {t : Bool} (hc : ev ρ c = .bool t) (ht : t = true → S P n (.c x :: k) Qf ρ ds w) (hf : t = false → S P n (.c y :: k) Qf ρ ds w) :
    S P n (.c (.cond c x y) :: k) Qf ρ ds w := by
  intro hk a ha
  simp only [okk, okc, Bool.and_eq_true] at hk
  refine wp_cond_split (t := t) (by rw [ha.eval]; exact hc) (fun e => ht e (by simp [okk, hk]) a ha) (fun e => hf e (by simp [okk, hk]) a ha)
theorem ct {c : Operand} {x y : Code} (hc : ev ρ c = .bool true) (h : S P n (.c x :: k) Qf ρ ds w) : S P n (.c (.cond c x y) :: k) Qf ρ ds w := cd hc (fun _ => h) (fun e => by cases e)
theorem cf {c : Operand} {x y : Code} (hc : ev ρ c = .bool false) (h : S P n (.c y :: k) Qf ρ ds w) : S P n (.c (.cond c x y) :: k) Qf ρ ds w := cd hc (fun e => by cases e) (fun _ => h)
/-- A test on a proposition. -/
theorem cp {c : Operand} {x y : Code} {p : Prop} [Decidable p] (hc : ev ρ c = .bool (decide p)) (ht : p → S P n (.c x :: k) Qf ρ ds w) (hf : ¬ p → S P n (.c y :: k) Qf ρ ds w) :
    S P n (.c (.cond c x y) :: k) Qf ρ ds w := cd hc (fun e => ht (of_decide_eq_true e)) (fun e => hf (of_decide_eq_false e))
/-- Its negation. -/
theorem cpn {c : Operand} {x y : Code} {p : Prop} [Decidable p] (hc : ev ρ c = .bool (!decide p)) (ht : ¬ p → S P n (.c x :: k) Qf ρ ds w) (hf : p → S P n (.c y :: k) Qf ρ ds w) :
    S P n (.c (.cond c x y) :: k) Qf ρ ds w := cd hc (fun e => ht (by simpa using e)) (fun e => hf (by simpa using e))

/-- The frame is forgotten, but for what I says of it. -/
theorem gen (I : Fr → Prop) (h0 : I ρ) (h : ∀ ρ', I ρ' → S P n k Qf ρ' ds w) : S P n k Qf ρ ds w := h ρ h0
/-- A region. -/
theorem rg {id : Nat} {l : List Oper} (h : L P n l.toArray l k Qf ρ ds w) : S P n (.c (.region id l.toArray false) :: k) Qf ρ ds w := by
  intro hk a ha
  simp only [okk, okc, Bool.and_eq_true] at hk
  exact wp_region_lit (h (by simpa using hk.1) hk.2 a ha)
/-- Its end. -/
theorem re {ops : Array Oper} (h : S P n k Qf ρ ds w) : L P n ops [] k Qf ρ ds w := fun _ hk a ha => wpList_nil (h hk a ha)

/-! ### Loops -/
theorem least {p : Nat → Prop} (h : ∃ m, p m) : ∃ m, p m ∧ ∀ j, p j → m ≤ j := by
  obtain ⟨m, hm⟩ := h
  induction m using Nat.strongRecOn with
  | _ m ih =>
    by_cases e : ∃ j, j < m ∧ p j
    · obtain ⟨j, hj, hp⟩ := e
      exact ih j hj hp
    · exact ⟨m, hm, fun j hj => Nat.le_of_not_lt fun hl => e ⟨j, hl, hj⟩⟩
/-- A round has come to its end: the state goes on. -/
def Again {α : Type} (n : Nat) (ds : List Deferred) (I : α → Fr → World → Prop) (μ : α → Nat) (m : Nat) : Act → World → Prop :=
  fun a w => ∃ y ρ, Sim n ρ ds a ∧ I y ρ w ∧ μ y < m
theorem lp {α : Type} {c : Code} (I : α → Fr → World → Prop) (μ : α → Nat) (x0 : α) (h0 : I x0 ρ w)
    (body : ∀ x ρ' w', I x ρ' w' → S P n (.c c :: .l (Again n ds I μ (μ x)) :: k) Qf ρ' ds w') : S P n (.c (.loop c) :: k) Qf ρ ds w := by
  intro hk a ha
  simp only [okk, okc, Bool.and_eq_true] at hk
  let st : Act → World → Nat → Prop := fun a w m => ∃ x ρ, Sim n ρ ds a ∧ I x ρ w ∧ μ x = m
  let mu : Act → World → Nat := fun a w => open Classical in if h : ∃ m, st a w m then (least h).choose else 0
  refine wp_loop (fun a w => ∃ x ρ, Sim n ρ ds a ∧ I x ρ w) mu ⟨x0, ρ, ha, h0⟩ ?_
  rintro a w ⟨x, ρ', hs, hI⟩
  have hex : ∃ m, st a w m := ⟨_, x, ρ', hs, hI, rfl⟩
  have hmu : mu a w = (least hex).choose := dif_pos hex
  obtain ⟨⟨x1, ρ1, hs1, hI1, hm1⟩, hle⟩ := (least hex).choose_spec
  have hb := body x1 ρ1 w hI1 (by simp [okk, hk]) a hs1
  refine wp_mono hb (fun e a' w' he => ?_)
  cases e with
  | normal =>
    obtain ⟨y, ρ2, hs2, hI2, hlt⟩ := he
    refine ⟨⟨y, ρ2, hs2, hI2⟩, ?_⟩
    have hex' : ∃ m, st a' w' m := ⟨_, y, ρ2, hs2, hI2, rfl⟩
    have hmu' : mu a' w' = (least hex').choose := dif_pos hex'
    rw [hmu, hmu', ← hm1]
    exact Nat.lt_of_le_of_lt ((least hex').choose_spec.2 _ ⟨y, ρ2, hs2, hI2, rfl⟩) hlt
  | exit id => exact he
  | goto l => exact he
  | ret => exact he
  | panic ch => exact he
  | outgrown => exact he
theorem ag {α : Type} {I : α → Fr → World → Prop} {μ : α → Nat} {m : Nat} (y : α) (hI : I y ρ w) (hm : μ y < m) : S P n (.l (Again n ds I μ m) :: k) Qf ρ ds w :=
  fun _ a ha => ⟨y, ρ, ha, hI, hm⟩
/-! ### Entering and leaving a function -/
/-- The call returns, and this is so. -/
def Ret (P : Program) (f : FuncId) (args : Array Value) (w : World) (Φ : Value → World → Prop) : Prop := Calls P f args w fun e w' => ∃ v, e = .returned v ∧ Φ v w'
theorem Ret.mono {f : FuncId} {args : Array Value} {Φ Φ' : Value → World → Prop} (h : Ret P f args w Φ) (hm : ∀ v w', Φ v w' → Φ' v w') : Ret P f args w Φ' :=
  Calls.mono h fun _ _ ⟨v, e, hv⟩ => ⟨v, e, hm _ _ hv⟩
/-- What is asked at a function's end. -/
def Fin (P : Program) (fn : Func) (Φ : Value → World → Prop) : Exit → Act → World → Prop := bodyPost P fn fun e w' => ∃ v, e = .returned v ∧ Φ v w'
def ini (args : Array Value) : Fr := fun t => args.getD t undef
theorem enter {f : FuncId} {fn : Func} {c : Code} {args : Array Value} {Φ : Value → World → Prop} (hf : P.funcs[f]? = some fn) (hb : fn.body = some c) (hn : fn.ntmps = n)
    (hok : okc n c = true) (hs : Nat.ble args.size n = true) (h : S P n [.c c] (Fin P fn Φ) (ini args) [] w) : Ret P f args w Φ := by
  refine calls_of_wp hf hb ?_
  have hs' : args.size ≤ n := Nat.le_of_ble_eq_true hs
  refine h (by simp [okk, hok]) _ ⟨by simp [hn]; omega, rfl, fun t => ?_⟩
  simp only [ini, Array.getD_eq_getD_getElem?, Array.getElem?_append]
  split
  · rfl
  · rename_i hlt
    rw [Array.getElem?_eq_none (Nat.le_of_not_lt hlt)]
    simp only [Array.getElem?_replicate]
    split <;> rfl

theorem rt {fn : Func} {Φ : Value → World → Prop} (h : S P n [] (Fin P fn Φ) ρ ds w) : S P n (.c .ret :: k) (Fin P fn Φ) ρ ds w :=
  fun hk a ha => wp_ret (den_ret k a w (h rfl a ha))
theorem fin1 {fn : Func} {Φ : Value → World → Prop} {t : Nat} {v : Value} (hr : fn.results = #[.tmp t]) (hv : ρ t = v) (h : Φ v w) : S P n [] (Fin P fn Φ) ρ [] w := by
  intro _ a ha
  refine ⟨ha.defers, _, results_tmp hr _ _ _, _, rfl, ?_⟩
  rw [ha.slot, hv]; exact h
theorem fin2 {fn : Func} {Φ : Value → World → Prop} {t u : Nat} {v v' : Value} (hr : fn.results = #[.tmp t, .tmp u]) (hv : ρ t = v) (hv' : ρ u = v') (h : Φ (.tuple #[v, v']) w) : S P n [] (Fin P fn Φ) ρ [] w := by
  intro _ a ha
  refine ⟨ha.defers, _, results_tmp2 hr _ _ _, _, rfl, ?_⟩
  rw [ha.slot, ha.slot, hv, hv']; exact h
theorem fin0 {fn : Func} {Φ : Value → World → Prop} (hr : fn.results = #[]) (h : Φ (.tuple #[]) w) : S P n [] (Fin P fn Φ) ρ [] w :=
  fun _ a ha => ⟨ha.defers, _, results_none hr _ _ _, _, rfl, h⟩
/-- Results of whatever make. -/
theorem fing {fn : Func} {Φ : Value → World → Prop} {v : Value} (hr : ∀ tmps : Array Value, (∀ t, tmps.getD t undef = ρ t) → (results fn tmps).run P w = .ok v w) (h : Φ v w) : S P n [] (Fin P fn Φ) ρ [] w :=
  fun _ a ha => ⟨ha.defers, _, hr _ ha.slot, _, rfl, h⟩

/-! ### Operations -/
variable {ops : Array Oper} {rest : List Oper}
theorem opv {o : Oper} {v : Value} {w' : World} (hg : o.guard = none) (hrun : (execOp (ev ρ) o).run P w = .ok (.value v) w') (h : L P n ops rest k Qf (updo ρ o.dst v) ds w') : L P n ops (o :: rest) k Qf ρ ds w := by
  intro hl hk a ha
  simp only [okl, Bool.and_eq_true] at hl
  refine wpList_plain hg fun K hK => ?_
  unfold Oper.wp
  rw [ha.eval, hrun]
  exact hK _ _ (h hl.2 hk _ (ha.put o.dst hl.1 v))
theorem ops_ {o : Oper} {w' : World} (hg : o.guard = none) (hrun : (execOp (ev ρ) o).run P w = .ok .skip w') (h : L P n ops rest k Qf (updo ρ o.dst undef) ds w') : L P n ops (o :: rest) k Qf ρ ds w := by
  intro hl hk a ha
  simp only [okl, Bool.and_eq_true] at hl
  refine wpList_plain hg fun K hK => ?_
  unfold Oper.wp
  rw [ha.eval, hrun]
  exact hK _ _ (h hl.2 hk _ (ha.put o.dst hl.1 undef))
theorem opc {o : Oper} {f : FuncId} {args : Array Value} {w' : World} {Φ : Value → World → Prop} (hg : o.guard = none) (hrun : (execOp (ev ρ) o).run P w = .ok (.enter f args) w') (hc : Ret P f args w' Φ)
    (h : ∀ v w2, Φ v w2 → L P n ops rest k Qf (updo ρ o.dst v) ds w2) : L P n ops (o :: rest) k Qf ρ ds w := by
  intro hl hk a ha
  simp only [okl, Bool.and_eq_true] at hl
  refine wpList_plain hg fun K hK => ?_
  unfold Oper.wp
  rw [ha.eval, hrun, Oper.upon_enter]
  refine Calls.mono hc fun e w2 ⟨v, he, hv⟩ => ?_
  subst he
  exact hK _ _ (h v w2 hv hl.2 hk _ (ha.put o.dst hl.1 v))
/-- A guard that says yes; one that says no. -/
theorem gy {d : Option Nat} {op : Op} {ty : TypeId} {pos : String} {af : Array Edge} {j t : Nat} {b : Bool} (hj : (ops[j]?).bind (·.dst) = some t) (ht : ρ t = .bool b) (hn : Nat.blt t n = true)
    (h : L P n ops (⟨d, op, ty, pos, af, none⟩ :: rest) k Qf ρ ds w) : L P n ops (⟨d, op, ty, pos, af, some (j, b)⟩ :: rest) k Qf ρ ds w := by
  intro hl hk a ha
  have hlt : t < a.tmps.size := by rw [ha.size]; simpa [Nat.blt_eq] using hn
  have hy : yielded ops a.tmps j = some b := by
    have h1 := ha.slot t
    rw [ht, Array.getD_eq_getD_getElem?, Array.getElem?_eq_getElem hlt] at h1
    simp only [Option.getD_some] at h1
    simp [yielded, hj, Array.getElem?_eq_getElem hlt, h1]
  have := h hl hk a ha
  simp only [wpList, Region.wanted, hy, beq_self_eq_true, if_true] at this ⊢
  exact this
theorem gn {d : Option Nat} {op : Op} {ty : TypeId} {pos : String} {af : Array Edge} {j t : Nat} {b : Bool} (hj : (ops[j]?).bind (·.dst) = some t) (ht : ρ t = .bool (!b)) (hn : Nat.blt t n = true)
    (h : L P n ops rest k Qf (updo ρ d undef) ds w) : L P n ops (⟨d, op, ty, pos, af, some (j, b)⟩ :: rest) k Qf ρ ds w := by
  intro hl hk a ha
  simp only [okl, Bool.and_eq_true] at hl
  have hlt : t < a.tmps.size := by rw [ha.size]; simpa [Nat.blt_eq] using hn
  have hy : yielded ops a.tmps j = some (!b) := by
    have h1 := ha.slot t
    rw [ht, Array.getD_eq_getD_getElem?, Array.getElem?_eq_getElem hlt] at h1
    simp only [Option.getD_some] at h1
    simp [yielded, hj, Array.getElem?_eq_getElem hlt, h1]
  have hne : ¬ Region.wanted ⟨d, op, ty, pos, af, some (j, b)⟩ (yielded ops a.tmps) = true := by cases b <;> simp [Region.wanted, hy]
  unfold wpList
  rw [if_neg hne]
  exact h hl.2 hk _ (ha.put d hl.1 undef)
/-- A guard whose Bool is itself 'undef' (its own operation was passed over): no. -/
theorem gu {d : Option Nat} {op : Op} {ty : TypeId} {pos : String} {af : Array Edge} {j t : Nat} {b : Bool} (hj : (ops[j]?).bind (·.dst) = some t) (ht : ρ t = undef) (hn : Nat.blt t n = true)
    (h : L P n ops rest k Qf (updo ρ d undef) ds w) : L P n ops (⟨d, op, ty, pos, af, some (j, b)⟩ :: rest) k Qf ρ ds w := by
  intro hl hk a ha
  simp only [okl, Bool.and_eq_true] at hl
  have hlt : t < a.tmps.size := by rw [ha.size]; simpa [Nat.blt_eq] using hn
  have hy : yielded ops a.tmps j = none := by
    have h1 := ha.slot t
    rw [ht, Array.getD_eq_getD_getElem?, Array.getElem?_eq_getElem hlt] at h1
    simp only [Option.getD_some] at h1
    simp [yielded, hj, Array.getElem?_eq_getElem hlt, h1, undef]
  have hne : ¬ Region.wanted ⟨d, op, ty, pos, af, some (j, b)⟩ (yielded ops a.tmps) = true := by simp [Region.wanted, hy]
  unfold wpList
  rw [if_neg hne]
  exact h hl.2 hk _ (ha.put d hl.1 undef)
end
end Go.Eng

namespace Go.Eng
set_option linter.unusedVariables false
set_option linter.unusedSimpArgs false

/-- Block g is a row of cells of element type T, unfrozen. -/
def B (w : World) (g : Nat) (T : TypeId) (cs : List Value) : Prop := w.heap[g]? = some (.cells cs.toArray T (0, 0))
theorem B.lt {w : World} {g : Nat} {T : TypeId} {cs : List Value} (h : B w g T cs) : g < w.heap.size := (Array.getElem?_eq_some_iff.1 h).1
theorem B.cell {w : World} {g : Nat} {T : TypeId} {cs : List Value} (h : B w g T cs) (o : Nat) : w.cell? ⟨g, o, none⟩ = cs[o]? := by simp [World.cell?, show w.heap[g]? = _ from h]
/-- Of the blocks of w none but those of F have changed. -/
structure Ch (F : List Nat) (w w' : World) : Prop where
  os : w'.os = w.os
  tape : w'.tape = w.tape
  output : w'.output = w.output
  size : w.heap.size ≤ w'.heap.size
  blk : ∀ k, k < w.heap.size → k ∉ F → w'.heap[k]? = w.heap[k]?
theorem Ch.refl (F : List Nat) (w : World) : Ch F w w := ⟨rfl, rfl, rfl, Nat.le_refl _, fun _ _ _ => rfl⟩
theorem Ch.trans {F G : List Nat} {w w1 w2 : World} (h : Ch F w w1) (h' : Ch G w1 w2) (hG : ∀ k, k ∈ G → k < w.heap.size → k ∈ F) : Ch F w w2 :=
  ⟨h'.os.trans h.os, h'.tape.trans h.tape, h'.output.trans h.output, Nat.le_trans h.size h'.size, fun k hk hn =>
    (h'.blk k (Nat.lt_of_lt_of_le hk h.size) (fun hg => hn (hG k hg hk))).trans (h.blk k hk hn)⟩
theorem Ch.t {F : List Nat} {w w1 w2 : World} (h : Ch F w w1) (h' : Ch [] w1 w2) : Ch F w w2 := h.trans h' (fun _ hk => by cases hk)
theorem Ch.mono {F G : List Nat} {w w1 : World} (h : Ch F w w1) (hG : ∀ k, k ∈ F → k < w.heap.size → k ∈ G) : Ch G w w1 :=
  ⟨h.os, h.tape, h.output, h.size, fun k hk hn => h.blk k hk (fun hf => hn (hG k hf hk))⟩
theorem Ch.below {w w1 : World} (h : Ch [] w w1) : Go.RowKit.Below w.heap.size w w1 := ⟨h.os, h.tape, h.output, h.size, fun k hk => h.blk k hk (by simp)⟩
theorem Ch.b {F : List Nat} {w w1 : World} {g : Nat} {T : TypeId} {cs : List Value} (h : Ch F w w1) (hb : B w g T cs) (hg : g ∉ F) : B w1 g T cs := (h.blk g hb.lt hg).trans hb
theorem Ch.b0 {w w1 : World} {g : Nat} {T : TypeId} {cs : List Value} (h : Ch [] w w1) (hb : B w g T cs) : B w1 g T cs := h.b hb (by simp)
theorem ch_alloc (w : World) (o : Obj) : Ch [] w (w.alloc o) := ⟨rfl, rfl, rfl, by simp, fun k hk _ => Go.RowKit.Below.heap_alloc _ _ _ hk⟩
theorem ch_drew (w : World) (n : Nat) : Ch [] w { w with drawn := n } := ⟨rfl, rfl, rfl, Nat.le_refl _, fun _ _ _ => rfl⟩
theorem b_alloc (w : World) (cs : List Value) (T : TypeId) : B (w.alloc (.cells cs.toArray T)) w.heap.size T cs := heap_alloc_new w _
theorem ch_setRow (w : World) (g : Nat) (cs : Array Value) : Ch [g] w (w.setRow g cs) := by
  refine ⟨rfl, rfl, rfl, by simp [World.setRow], fun k hk hn => ?_⟩
  exact setRow_other w g k _ (fun e => hn (by simp [e]))
/-! ### Blocks of one's own: what the walks ask all the time -/
theorem ne_new {b g n : Nat} (h : b < n) (e : g = n) : b ≠ g := by omega
theorem le_new {a g n : Nat} (h : a ≤ n) (e : g = n) : a ≤ g := by omega
theorem nin1 {b g : Nat} (h : b ≠ g) : b ∉ [g] := by simp [h]
theorem Ch.own {w w1 w2 : World} {g : Nat} (h : Ch [] w w1) (h' : Ch [g] w1 w2) (hg : w.heap.size ≤ g) : Ch [] w w2 := h.trans h' (fun k hk hl => by simp at hk; omega)
theorem oc {v : Value} {l : List Value} (h : v.oneCell' = true) (hl : ∀ u, u ∈ l → u.oneCell' = true) : ∀ u, u ∈ v :: l → u.oneCell' = true := fun u hu => (List.mem_cons.1 hu).elim (fun e => e ▸ h) (hl u)
theorem on : ∀ u, u ∈ ([] : List Value) → u.oneCell' = true := fun u hu => by cases hu
theorem fresh_d {F : List Nat} {g n : Nat} (h : ∀ k, k ∈ F → k < n) (e : g = n) : ∀ k, k ∈ F → k ∉ [g] := fun k hk => nin1 (by have := h k hk; omega)
theorem old_d {F : List Nat} {g n : Nat} (h : ∀ k, k ∈ F → n ≤ k) (e : g < n) : ∀ k, k ∈ F → k ∉ [g] := fun k hk => nin1 (by have := h k hk; omega)

theorem add_mk (g o j : Nat) : (⟨g, o, none⟩ : Addr).add j = ⟨g, o + j, none⟩ := by unfold Addr.add; split <;> simp_all
theorem add_block (a : Addr) (j : Nat) : (a.add j).block = a.block := by unfold Addr.add; split <;> rfl
theorem add_add (a : Addr) (i j : Nat) : (a.add i).add j = a.add (i + j) := by
  unfold Addr.add
  by_cases hi : i = 0
  · subst hi; simp
  · by_cases hj : j = 0
    · subst hj; simp
    · rw [if_neg hi, if_neg hj, if_neg (by omega)]
      simp [Nat.add_assoc]

/-! ### Lists of elements as lists of cells -/
def Els {α : Type} (R : List Nat → α → List Value → Prop) : List Nat → List α → List Value → Prop
  | F, [], cs => F = [] ∧ cs = []
  | F, x :: xs, cs => ∃ F1 F2 c1 c2, F = F1 ++ F2 ∧ cs = c1 ++ c2 ∧ R F1 x c1 ∧ Els R F2 xs c2
theorem Els.imp {α : Type} {R R' : List Nat → α → List Value → Prop} {xs : List α} : ∀ {F : List Nat} {cs : List Value}, (∀ G x c, (∀ k, k ∈ G → k ∈ F) → R G x c → R' G x c) → Els R F xs cs → Els R' F xs cs := by
  induction xs with
  | nil => exact fun _ h => h
  | cons x xs ih =>
    rintro F cs hi ⟨F1, F2, c1, c2, rfl, rfl, h1, h2⟩
    exact ⟨F1, F2, c1, c2, rfl, rfl, hi _ _ _ (fun k hk => List.mem_append_left _ hk) h1, ih (fun G x c hG h => hi G x c (fun k hk => List.mem_append_right _ (hG k hk)) h) h2⟩
theorem Els.snoc {α : Type} {R : List Nat → α → List Value → Prop} {xs : List α} {y : α} {G : List Nat} {d : List Value} (hy : R G y d) : ∀ {F : List Nat} {cs : List Value}, Els R F xs cs → Els R (F ++ G) (xs ++ [y]) (cs ++ d) := by
  induction xs with
  | nil =>
    rintro F cs ⟨rfl, rfl⟩
    exact ⟨G, [], d, [], by simp, by simp, hy, rfl, rfl⟩
  | cons x xs ih =>
    rintro F cs ⟨F1, F2, c1, c2, rfl, rfl, h1, h2⟩
    exact ⟨F1, F2 ++ G, c1, c2 ++ d, by simp, by simp, h1, ih h2⟩
theorem Els.app {α : Type} {R : List Nat → α → List Value → Prop} {xs ys : List α} {G : List Nat} {d : List Value} (hy : Els R G ys d) : ∀ {F : List Nat} {cs : List Value}, Els R F xs cs → Els R (F ++ G) (xs ++ ys) (cs ++ d) := by
  induction xs with
  | nil =>
    rintro F cs ⟨rfl, rfl⟩
    exact hy
  | cons x xs ih =>
    rintro F cs ⟨F1, F2, c1, c2, rfl, rfl, h1, h2⟩
    exact ⟨F1, F2 ++ G, c1, c2 ++ d, by simp, by simp, h1, ih h2⟩
theorem Els.length {α : Type} {R : List Nat → α → List Value → Prop} {sz : Nat} (hl : ∀ F x c, R F x c → c.length = sz) {xs : List α} : ∀ {F : List Nat} {cs : List Value}, Els R F xs cs → cs.length = xs.length * sz := by
  induction xs with
  | nil => rintro F cs ⟨_, rfl⟩; simp
  | cons x xs ih =>
    rintro F cs ⟨F1, F2, c1, c2, rfl, rfl, h1, h2⟩
    rw [List.length_append, hl _ _ _ h1, ih h2, List.length_cons, Nat.add_mul, Nat.one_mul, Nat.add_comm]
theorem Els.all {α : Type} {R : List Nat → α → List Value → Prop} {p : Value → Prop} (hl : ∀ F x c, R F x c → ∀ u, u ∈ c → p u) {xs : List α} : ∀ {F : List Nat} {cs : List Value}, Els R F xs cs → ∀ u, u ∈ cs → p u := by
  induction xs with
  | nil => rintro F cs ⟨_, rfl⟩ u hu; cases hu
  | cons x xs ih =>
    rintro F cs ⟨F1, F2, c1, c2, rfl, rfl, h1, h2⟩ u hu
    rcases List.mem_append.1 hu with hu | hu
    · exact hl _ _ _ h1 u hu
    · exact ih h2 u hu
theorem Els.blocks {α : Type} {R : List Nat → α → List Value → Prop} {p : Nat → Prop} (hl : ∀ F x c, R F x c → ∀ k, k ∈ F → p k) {xs : List α} : ∀ {F : List Nat} {cs : List Value}, Els R F xs cs → ∀ k, k ∈ F → p k := by
  induction xs with
  | nil => rintro F cs ⟨rfl, _⟩ u hu; cases hu
  | cons x xs ih =>
    rintro F cs ⟨F1, F2, c1, c2, rfl, rfl, h1, h2⟩ u hu
    rcases List.mem_append.1 hu with hu | hu
    · exact hl _ _ _ h1 u hu
    · exact ih h2 u hu
/-- Element i, and the elements before and behind it. -/
theorem Els.at {α : Type} {R : List Nat → α → List Value → Prop} {sz : Nat} (hl : ∀ F x c, R F x c → c.length = sz) {xs : List α} : ∀ {F : List Nat} {cs : List Value} (i : Nat) (hi : i < xs.length), Els R F xs cs →
    ∃ Fa Fi Fb ca ci cb, F = Fa ++ (Fi ++ Fb) ∧ cs = ca ++ (ci ++ cb) ∧ ca.length = i * sz ∧ ci.length = sz ∧ Els R Fa (xs.take i) ca ∧ R Fi xs[i] ci ∧ Els R Fb (xs.drop (i + 1)) cb := by
  induction xs with
  | nil => intro F cs i hi; cases hi
  | cons x xs ih =>
    rintro F cs i hi ⟨F1, F2, c1, c2, rfl, rfl, h1, h2⟩
    cases i with
    | zero => exact ⟨[], F1, F2, [], c1, c2, by simp, by simp, by simp, hl _ _ _ h1, ⟨rfl, rfl⟩, h1, by simpa using h2⟩
    | succ i =>
      obtain ⟨Fa, Fi, Fb, ca, ci, cb, rfl, rfl, hc, hs, ha, hi', hb⟩ := ih i (by simpa using hi) h2
      exact ⟨F1 ++ Fa, Fi, Fb, c1 ++ ca, ci, cb, by simp, by simp, by rw [List.length_append, hl _ _ _ h1, hc, Nat.add_mul, Nat.one_mul, Nat.add_comm], hs, ⟨F1, Fa, c1, ca, rfl, rfl, h1, ha⟩, by simpa using hi', by simpa using hb⟩
theorem Els.put {α : Type} {R : List Nat → α → List Value → Prop} {xs : List α} {i : Nat} {y : α} {Fa Fi Fb : List Nat} {ca ci cb : List Value} (hi : i < xs.length) (ha : Els R Fa (xs.take i) ca) (hy : R Fi y ci) (hb : Els R Fb (xs.drop (i + 1)) cb) :
    Els R (Fa ++ (Fi ++ Fb)) (xs.set i y) (ca ++ (ci ++ cb)) := by
  have : xs.set i y = xs.take i ++ (y :: xs.drop (i + 1)) := by rw [List.set_eq_take_append_cons_drop, if_pos hi]
  rw [this]
  exact Els.app (R := R) (ys := y :: xs.drop (i + 1)) ⟨Fi, Fb, ci, cb, rfl, rfl, hy, hb⟩ ha

/-! ### Kinds -/
structure Kd (α : Type) where
  sz : Nat
  pos : 0 < sz
  K : World → List Nat → α → List Value → Prop
  O : World → List Nat → α → List Value → Prop
  len : ∀ {w F x cs}, K w F x cs → cs.length = sz
  one : ∀ {w F x cs}, K w F x cs → ∀ u, u ∈ cs → u.oneCell' = true
  own : ∀ {w F x cs}, O w F x cs → K w F x cs
  mvK : ∀ {w w' : World} {F x cs}, (∀ k, k ∈ F → w'.heap[k]? = w.heap[k]?) → K w F x cs → K w' F x cs
  mvO : ∀ {w w' : World} {F x cs}, (∀ k, k ∈ F → w'.heap[k]? = w.heap[k]?) → O w F x cs → O w' F x cs
  lt : ∀ {w F x cs}, K w F x cs → ∀ k, k ∈ F → k < w.heap.size

namespace Kd
/-- A value whose cells hold all of it. -/
def flat {α : Type} (sz : Nat) (enc : α → List Value) (hp : 0 < sz) (hl : ∀ x, (enc x).length = sz) (h1 : ∀ x u, u ∈ enc x → u.oneCell' = true) : Kd α where
  sz := sz
  pos := hp
  K := fun _ F x cs => cs = enc x ∧ F = []
  O := fun _ F x cs => cs = enc x ∧ F = []
  len := fun h => by rw [h.1]; exact hl _
  one := fun h u hu => h1 _ u (h.1 ▸ hu)
  own := fun h => h
  mvK := fun _ h => h
  mvO := fun _ h => h
  lt := fun h k hk => by rw [h.2] at hk; cases hk
def one1 {α : Type} (enc : α → Value) (h1 : ∀ x, (enc x).oneCell' = true) : Kd α := flat 1 (fun x => [enc x]) Nat.one_pos (fun _ => rfl) (fun x u hu => by rw [List.mem_singleton.1 hu]; exact h1 x)
def int (k : IntKind) : Kd Int := one1 (Value.int k) (fun _ => rfl)
def bool : Kd Bool := one1 Value.bool (fun _ => rfl)
def str : Kd ByteArray := one1 Value.string (fun _ => rfl)

variable {α β : Type}
/-- The value v is a slice that reads as xs; F: the blocks. -/
def R (d : Kd α) (w : World) (F : List Nat) (v : Value) (xs : List α) : Prop :=
  ∃ A c G Fs cs, v = .slice A xs.length c ∧ xs.length ≤ c ∧ F = G ++ Fs ∧ (∀ k, k ∈ G → k < w.heap.size) ∧ Els (d.K w) Fs xs cs ∧
    ∀ j u, cs[j]? = some u → ∃ ad, A = some ad ∧ ad.block ∈ G ∧ w.cell? (ad.add j) = some u
/-- The value v is a slice that owns its row of element type e. -/
def W (d : Kd α) (e : TypeId) (w : World) (F : List Nat) (v : Value) (xs : List α) : Prop :=
  ∃ Fs cs, w.ownsRow 0 e d.sz v xs.length cs ∧ F = v.ownBlock.toList ++ Fs ∧ Els (d.O w) Fs xs cs

theorem nil_R (d : Kd α) (w : World) : d.R w [] (.slice none 0 0) [] := ⟨none, 0, [], [], [], rfl, Nat.le_refl _, rfl, (fun _ h => by cases h), ⟨rfl, rfl⟩, (fun j u h => by simp at h)⟩
theorem nil_W (d : Kd α) (e : TypeId) (w : World) : d.W e w [] (.slice none 0 0) [] := ⟨[], [], World.ownsRow_nil w 0 e d.sz, rfl, rfl, rfl⟩

section
variable {d : Kd α} {e : TypeId} {w w' : World} {F : List Nat} {v : Value} {xs : List α}
theorem R.lt (h : d.R w F v xs) : ∀ k, k ∈ F → k < w.heap.size := by
  obtain ⟨A, c, G, Fs, cs, rfl, hc, rfl, hG, he, hr⟩ := h
  intro k hk
  rcases List.mem_append.1 hk with hk | hk
  · exact hG k hk
  · exact he.blocks (p := (· < w.heap.size)) (fun F x c h => d.lt h) k hk
theorem R.mv (h : d.R w F v xs) (hm : ∀ k, k ∈ F → w'.heap[k]? = w.heap[k]?) (hs : w.heap.size ≤ w'.heap.size) : d.R w' F v xs := by
  obtain ⟨A, c, G, Fs, cs, rfl, hc, rfl, hG, he, hr⟩ := h
  refine ⟨A, c, G, Fs, cs, rfl, hc, rfl, fun k hk => Nat.lt_of_lt_of_le (hG k hk) hs, he.imp (fun G' x c hG' hx => d.mvK (fun k hk => hm k (List.mem_append_right _ (hG' k hk))) hx), fun j u hu => ?_⟩
  obtain ⟨ad, e1, e2, e3⟩ := hr j u hu
  refine ⟨ad, e1, e2, ?_⟩
  rw [World.cell?_of_block (w := w) (by rw [add_block]; exact hm _ (List.mem_append_left _ e2))]
  exact e3
theorem W.mv (h : d.W e w F v xs) (hm : ∀ k, k ∈ F → w'.heap[k]? = w.heap[k]?) : d.W e w' F v xs := by
  obtain ⟨Fs, cs, ho, rfl, he⟩ := h
  refine ⟨Fs, cs, ?_, rfl, he.imp (fun G' x c hG' hx => d.mvO (fun k hk => hm k (List.mem_append_right _ (hG' k hk))) hx)⟩
  obtain ⟨h1, h2⟩ := ho
  refine ⟨h1, ?_⟩
  rcases h2 with h2 | ⟨g, cap, cur, rfl, hg, hh, r⟩
  · exact .inl h2
  · exact .inr ⟨g, cap, cur, rfl, hg, (hm g (by simp [Value.ownBlock])).trans hh, r⟩
theorem R.t (h : d.R w F v xs) (hc : Ch [] w w') : d.R w' F v xs := h.mv (fun k hk => hc.blk k (h.lt k hk) (by simp)) hc.size
theorem W.R (h : d.W e w F v xs) : d.R w F v xs := by
  obtain ⟨Fs, cs, ho, rfl, he⟩ := h
  have hlen : cs.length = xs.length * d.sz := ho.1
  rcases ho.2 with ⟨rfl, hn⟩ | ⟨g, cap, cur, rfl, _, hh, hnc, hcm, hcs, htake⟩
  · have hx : xs = [] := List.eq_nil_of_length_eq_zero hn
    subst hx
    obtain ⟨rfl, rfl⟩ := he
    exact nil_R d w
  · refine ⟨_, cap, [g], Fs, cs, rfl, hnc, by simp [Value.ownBlock], ?_, he.imp (fun _ _ _ _ h => d.own h), fun j u hu => ⟨_, rfl, by simp, ?_⟩⟩
    · intro k hk
      obtain rfl := List.mem_singleton.1 hk
      exact (Array.getElem?_eq_some_iff.1 hh).1
    · rw [add_mk, Nat.zero_add, cell_of_row w g j cur e (0, 0) hh]
      rw [← htake, List.getElem?_take] at hu
      split at hu
      · simpa using hu
      · cases hu
theorem W.lt (h : d.W e w F v xs) : ∀ k, k ∈ F → k < w.heap.size := h.R.lt
theorem W.t (h : d.W e w F v xs) (hc : Ch [] w w') : d.W e w' F v xs := h.mv (fun k hk => hc.blk k (h.lt k hk) (by simp))
/-- Behind a change of blocks that are not ours. -/
theorem R.tt {G : List Nat} (h : d.R w F v xs) (hc : Ch G w w') (hG : ∀ k, k ∈ F → k ∉ G) : d.R w' F v xs := h.mv (fun k hk => hc.blk k (h.lt k hk) (hG k hk)) hc.size
theorem W.tt {G : List Nat} (h : d.W e w F v xs) (hc : Ch G w w') (hG : ∀ k, k ∈ F → k ∉ G) : d.W e w' F v xs := h.mv (fun k hk => hc.blk k (h.lt k hk) (hG k hk))
theorem R.shape (h : d.R w F v xs) : ∃ A c, v = .slice A xs.length c ∧ xs.length ≤ c := by
  obtain ⟨A, c, G, Fs, cs, rfl, hc, _⟩ := h
  exact ⟨A, c, rfl, hc⟩
theorem R.oneCell (h : d.R w F v xs) : v.oneCell' = true := by
  obtain ⟨A, c, rfl, _⟩ := h.shape
  rfl
/-- An element's cells. -/
theorem R.get (h : d.R w F v xs) (i : Nat) (hi : i < xs.length) : ∃ c ad Fi ci, v = .slice (some ad) xs.length c ∧ (∀ k, k ∈ Fi → k ∈ F) ∧ d.K w Fi xs[i] ci ∧ ∀ j u, ci[j]? = some u → w.cell? (ad.add (i * d.sz + j)) = some u := by
  obtain ⟨A, c, G, Fs, cs, rfl, hc, rfl, hG, he, hr⟩ := h
  obtain ⟨Fa, Fi, Fb, ca, ci, cb, rfl, rfl, hca, hci, _, hK, _⟩ := he.at (fun _ _ _ h => d.len h) i hi
  have key : ∀ j u, ci[j]? = some u → ∃ ad, A = some ad ∧ w.cell? (ad.add (i * d.sz + j)) = some u := by
    intro j u hu
    have hj : j < ci.length := (List.getElem?_eq_some_iff.1 hu).1
    obtain ⟨ad, e1, _, e3⟩ := hr (i * d.sz + j) u (by rw [List.getElem?_append_right (by omega), hca, Nat.add_sub_cancel_left, List.getElem?_append_left hj]; exact hu)
    exact ⟨ad, e1, e3⟩
  have hA : ∃ ad, A = some ad := by
    have hz : 0 < ci.length := by rw [hci]; exact d.pos
    obtain ⟨ad, e1, _⟩ := key 0 ci[0] (List.getElem?_eq_getElem hz)
    exact ⟨ad, e1⟩
  obtain ⟨ad, rfl⟩ := hA
  refine ⟨c, ad, Fi, ci, rfl, fun k hk => ?_, hK, fun j u hu => ?_⟩
  · simp [hk]
  · obtain ⟨ad', e1, e3⟩ := key j u hu
    injection e1 with e1
    subst e1
    exact e3
end

/-- Slices as elements. -/
def sl {α : Type} (e : TypeId) (d : Kd α) : Kd (List α) where
  sz := 1
  pos := Nat.one_pos
  K := fun w F xs cs => ∃ v, cs = [v] ∧ d.R w F v xs
  O := fun w F xs cs => ∃ v, cs = [v] ∧ d.W e w F v xs
  len := by rintro w F x cs ⟨v, rfl, _⟩; rfl
  one := by rintro w F x cs ⟨v, rfl, h⟩ u hu; rw [List.mem_singleton.1 hu]; exact h.oneCell
  own := by rintro w F x cs ⟨v, rfl, h⟩; exact ⟨v, rfl, h.R⟩
  mvK := by
    rintro w w' F x cs hm ⟨v, rfl, h⟩
    refine ⟨v, rfl, ?_⟩
    obtain ⟨A, c, G, Fs, cs, rfl, hc, rfl, hG, he, hr⟩ := h
    refine ⟨A, c, G, Fs, cs, rfl, hc, rfl, fun k hk => ?_, he.imp (fun G' x c hG' hx => d.mvK (fun k hk => hm k (List.mem_append_right _ (hG' k hk))) hx), fun j u hu => ?_⟩
    · have h1 := hm k (List.mem_append_left _ hk)
      have h2 := hG k hk
      rw [Array.getElem?_eq_getElem h2] at h1
      exact (Array.getElem?_eq_some_iff.1 h1).1
    · obtain ⟨ad, e1, e2, e3⟩ := hr j u hu
      refine ⟨ad, e1, e2, ?_⟩
      rw [World.cell?_of_block (w := w) (by rw [add_block]; exact hm _ (List.mem_append_left _ e2))]
      exact e3
  mvO := by rintro w w' F x cs hm ⟨v, rfl, h⟩; exact ⟨v, rfl, h.mv hm⟩
  lt := by rintro w F x cs ⟨v, rfl, h⟩; exact h.lt
/-- One behind the other. -/
def prod {α β : Type} (a : Kd α) (b : Kd β) : Kd (α × β) where
  sz := a.sz + b.sz
  pos := Nat.add_pos_left a.pos _
  K := fun w F x cs => ∃ F1 F2 c1 c2, F = F1 ++ F2 ∧ cs = c1 ++ c2 ∧ a.K w F1 x.1 c1 ∧ b.K w F2 x.2 c2
  O := fun w F x cs => ∃ F1 F2 c1 c2, F = F1 ++ F2 ∧ cs = c1 ++ c2 ∧ a.O w F1 x.1 c1 ∧ b.O w F2 x.2 c2
  len := by rintro w F x cs ⟨F1, F2, c1, c2, rfl, rfl, h1, h2⟩; rw [List.length_append, a.len h1, b.len h2]
  one := by
    rintro w F x cs ⟨F1, F2, c1, c2, rfl, rfl, h1, h2⟩ u hu
    rcases List.mem_append.1 hu with hu | hu
    · exact a.one h1 u hu
    · exact b.one h2 u hu
  own := by rintro w F x cs ⟨F1, F2, c1, c2, rfl, rfl, h1, h2⟩; exact ⟨F1, F2, c1, c2, rfl, rfl, a.own h1, b.own h2⟩
  mvK := by rintro w w' F x cs hm ⟨F1, F2, c1, c2, rfl, rfl, h1, h2⟩; exact ⟨F1, F2, c1, c2, rfl, rfl, a.mvK (fun k hk => hm k (List.mem_append_left _ hk)) h1, b.mvK (fun k hk => hm k (List.mem_append_right _ hk)) h2⟩
  mvO := by rintro w w' F x cs hm ⟨F1, F2, c1, c2, rfl, rfl, h1, h2⟩; exact ⟨F1, F2, c1, c2, rfl, rfl, a.mvO (fun k hk => hm k (List.mem_append_left _ hk)) h1, b.mvO (fun k hk => hm k (List.mem_append_right _ hk)) h2⟩
  lt := by
    rintro w F x cs ⟨F1, F2, c1, c2, rfl, rfl, h1, h2⟩ k hk
    rcases List.mem_append.1 hk with hk | hk
    · exact a.lt h1 k hk
    · exact b.lt h2 k hk
end Kd
end Go.Eng

namespace Go.Eng
set_option linter.unusedVariables false
set_option linter.unusedSimpArgs false

def aggD : TypeDesc → Bool
  | .struct _ => true
  | .array _ _ => true
  | _ => false
def TI (P : Program) (t : TypeId) (z : Value) (sz by_ : Nat) : Prop := (P.info? t).map (fun i => (i.zero, i.size, i.bytes)) = some (some z, sz, by_)
def splice (cs : List Value) (o : Nat) (vs : List Value) : List Value := cs.take o ++ vs ++ cs.drop (o + vs.length)

section
variable {P : Program} {n : Nat} {k : List It} {Qf : Exit → Act → World → Prop} {ρ : Fr} {ds : List Deferred} {w : World}
variable {ops : Array Oper} {rest : List Oper} {d : Option Nat} {ty : TypeId} {pos : String} {af : Array Edge}

/-- In this world, and in whatever world comes of it by new blocks alone, the operation comes to v and leaves the world as it is. -/
def Rn (P : Program) (ρ : Fr) (o : Oper) (w : World) (v : Value) : Prop := o.guard = none ∧ ∀ w', Ch [] w w' → (execOp (ev ρ) o).run P w' = .ok (.value v) w'
theorem r {o : Oper} {v : Value} (hr : Rn P ρ o w v) (h : L P n ops rest k Qf (updo ρ o.dst v) ds w) : L P n ops (o :: rest) k Qf ρ ds w := opv hr.1 (hr.2 w (Ch.refl _ _)) h
theorem Ch.cell {w w' : World} {p : Addr} {v : Value} (h : Ch [] w w') (hc : w.cell? p = some v) : w'.cell? p = some v :=
  (World.cell?_of_block (h.blk p.block (World.block_lt_of_cell? w p hc) (by simp))).trans hc


theorem mv {x : Operand} {v : Value} (hx : ev ρ x = v) : Rn P ρ ⟨d, .move x, ty, pos, af, none⟩ w v := by
  subst hx
  exact ⟨rfl, fun w' _ => by simp [execOp]⟩
theorem sa {x : Operand} {v : Value} (hx : ev ρ x = v) : Rn P ρ ⟨d, .assign x, ty, pos, af, none⟩ w v := by
  subst hx
  exact ⟨rfl, fun w' _ => by simp [execOp]⟩
theorem pk {c a b : Operand} {t : Bool} {v : Value} (hc : ev ρ c = .bool t) (hv : (bif t then ev ρ a else ev ρ b) = v) : Rn P ρ ⟨d, .pick c a b, ty, pos, af, none⟩ w v := by
  subst hv
  refine ⟨rfl, fun w' _ => ?_⟩
  cases t <;> simp [execOp, hc, asBool]

/-! ### Whole numbers -/
/-- The operators that come to a value on any two numbers. -/
def ib : BinOp → IntKind → Int → Int → Option Value
  | .add, k, a, b => some (.int k (k.wrap (a + b)))
  | .sub, k, a, b => some (.int k (k.wrap (a - b)))
  | .mul, k, a, b => some (.int k (k.wrap (a * b)))
  | .eql, _, a, b => some (.bool (decide (a = b)))
  | .neq, _, a, b => some (.bool (!decide (a = b)))
  | .lss, _, a, b => some (.bool (decide (a < b)))
  | .leq, _, a, b => some (.bool (decide (a ≤ b)))
  | .gtr, _, a, b => some (.bool (decide (b < a)))
  | .geq, _, a, b => some (.bool (decide (b ≤ a)))
  | _, _, _, _ => none
theorem bi {op : BinOp} {t u : TypeId} {x y : Operand} {kd : IntKind} {a b : Int} {v : Value} (hx : ev ρ x = .int kd a) (hy : ev ρ y = .int kd b) (hv : ib op kd a b = some v) : Rn P ρ ⟨d, .binOp op t x y u, ty, pos, af, none⟩ w v := by
  refine ⟨rfl, fun w' _ => ?_⟩
  have hb : ∀ p q : Int, (p == q) = decide (p = q) := fun p q => by by_cases e : p = q <;> simp [e]
  cases op <;> simp only [ib, Option.some.injEq, reduceCtorEq] at hv <;> subst hv <;> simp [execOp, hx, hy, eqGuard, binOp, Op.intArith, Op.intCmp, hb, bne]
/-- The sum is c, and fits. -/
theorem ad {t u : TypeId} {x y : Operand} {a b : Int} (c : Int) (hx : ev ρ x = .int .i64 a) (hy : ev ρ y = .int .i64 b) (hc : a + b = c ∧ -9223372036854775808 ≤ c ∧ c ≤ 9223372036854775807) : Rn P ρ ⟨d, .binOp .add t x y u, ty, pos, af, none⟩ w (.int .i64 c) := by
  have : IntKind.i64.wrap (a + b) = c := by rw [IntWalk.i64_in _ (by omega)]; exact hc.1
  exact bi hx hy (by simp [ib, this])
theorem sb {t u : TypeId} {x y : Operand} {a b : Int} (c : Int) (hx : ev ρ x = .int .i64 a) (hy : ev ρ y = .int .i64 b) (hc : a - b = c ∧ -9223372036854775808 ≤ c ∧ c ≤ 9223372036854775807) : Rn P ρ ⟨d, .binOp .sub t x y u, ty, pos, af, none⟩ w (.int .i64 c) := by
  have : IntKind.i64.wrap (a - b) = c := by rw [IntWalk.i64_in _ (by omega)]; exact hc.1
  exact bi hx hy (by simp [ib, this])
theorem ml {t u : TypeId} {x y : Operand} {a b : Int} (c : Int) (hx : ev ρ x = .int .i64 a) (hy : ev ρ y = .int .i64 b) (hc : a * b = c ∧ -9223372036854775808 ≤ c ∧ c ≤ 9223372036854775807) : Rn P ρ ⟨d, .binOp .mul t x y u, ty, pos, af, none⟩ w (.int .i64 c) := by
  have : IntKind.i64.wrap (a * b) = c := by rw [IntWalk.i64_in _ (by omega)]; exact hc.1
  exact bi hx hy (by simp [ib, this])
/-- Division and the rest, by a number that is not 0. -/
theorem dv {t u : TypeId} {x y : Operand} {a b : Int} (c : Int) (hx : ev ρ x = .int .i64 a) (hy : ev ρ y = .int .i64 b) (hc : b ≠ 0 ∧ a.tdiv b = c ∧ -9223372036854775808 ≤ c ∧ c ≤ 9223372036854775807) : Rn P ρ ⟨d, .binOp .quo t x y u, ty, pos, af, none⟩ w (.int .i64 c) := by
  have : IntKind.i64.wrap (a.tdiv b) = c := by rw [IntWalk.i64_in _ (by omega)]; exact hc.2.1
  exact ⟨rfl, fun w' _ => by simp [execOp, hx, hy, eqGuard, binOp, Op.intDiv, hc.1, this]⟩
theorem rm {kd : IntKind} {t u : TypeId} {x y : Operand} {a b : Int} (c : Int) (hx : ev ρ x = .int kd a) (hy : ev ρ y = .int kd b) (hc : b ≠ 0 ∧ a.tmod b = c) : Rn P ρ ⟨d, .binOp .rem t x y u, ty, pos, af, none⟩ w (.int kd c) :=
  ⟨rfl, fun w' _ => by simp [execOp, hx, hy, eqGuard, binOp, Op.intDiv, hc.1, hc.2]⟩
/-- Between two whole numbers: a conversion. -/
theorem cv {s t : TypeId} {x : Operand} {kd kd' : IntKind} {a : Int} {ds' : TypeDesc} (c : Int) (hs : P.underlying s = some ds') (ht : P.underlying t = some (.int kd')) (hx : ev ρ x = .int kd a) (hc : kd'.wrap a = c) : Rn P ρ ⟨d, .convert s t x, ty, pos, af, none⟩ w (.int kd' c) :=
  ⟨rfl, fun w' _ => by simp [execOp, hx, convert, run_underlying hs, run_underlying ht, Conv.intToInt, hc]⟩
theorem sr {t u : TypeId} {x y : Operand} {kd kd' : IntKind} {a b : Int} (c : Int) (hx : ev ρ x = .int kd a) (hy : ev ρ y = .int kd' b) (hc : 0 ≤ b ∧ a.fdiv (2 ^ (min b.toNat kd.bits)) = c) : Rn P ρ ⟨d, .binOp .shr t x y u, ty, pos, af, none⟩ w (.int kd c) :=
  ⟨rfl, fun w' _ => by simp [execOp, hx, hy, eqGuard, binOp, Op.shift, show ¬ b < 0 by omega, hc.2]⟩
theorem sh {t u : TypeId} {x y : Operand} {kd kd' : IntKind} {a b : Int} (c : Int) (hx : ev ρ x = .int kd a) (hy : ev ρ y = .int kd' b) (hc : 0 ≤ b ∧ kd.wrap (a * 2 ^ (min b.toNat kd.bits)) = c) : Rn P ρ ⟨d, .binOp .shl t x y u, ty, pos, af, none⟩ w (.int kd c) :=
  ⟨rfl, fun w' _ => by simp [execOp, hx, hy, eqGuard, binOp, Op.shift, show ¬ b < 0 by omega, hc.2]⟩
theorem nt {x : Operand} {t : TypeId} {b : Bool} (hx : ev ρ x = .bool b) : Rn P ρ ⟨d, .unOp .not t x, ty, pos, af, none⟩ w (.bool (!b)) :=
  ⟨rfl, fun w' _ => by simp [execOp, hx, Op.unary]⟩
/-! ### Parting on a slot's Bool -/
theorem upd_self (ρ : Fr) (t : Nat) (v : Value) (h : ρ t = v) : upd ρ t v = ρ := by
  funext s
  unfold upd
  cases e : Nat.beq s t with
  | false => rfl
  | true => rw [Nat.eq_of_beq_eq_true e, ← h]; rfl
theorem sp (t : Nat) {p : Prop} [Decidable p] (ht : ρ t = .bool (decide p)) (hT : p → L P n ops rest k Qf (upd ρ t (.bool true)) ds w) (hF : ¬ p → L P n ops rest k Qf (upd ρ t (.bool false)) ds w) : L P n ops rest k Qf ρ ds w := by
  by_cases h : p
  · have := hT h; rwa [upd_self ρ t _ (by rw [ht, decide_eq_true h])] at this
  · have := hF h; rwa [upd_self ρ t _ (by rw [ht, decide_eq_false h])] at this
theorem spn (t : Nat) {p : Prop} [Decidable p] (ht : ρ t = .bool (!decide p)) (hT : ¬ p → L P n ops rest k Qf (upd ρ t (.bool true)) ds w) (hF : p → L P n ops rest k Qf (upd ρ t (.bool false)) ds w) : L P n ops rest k Qf ρ ds w := by
  by_cases h : p
  · have := hF h; rwa [upd_self ρ t _ (by rw [ht, decide_eq_true h]; rfl)] at this
  · have := hT h; rwa [upd_self ρ t _ (by rw [ht, decide_eq_false h]; rfl)] at this
/-! ### Calls; several results -/
theorem ac {x : Operand} {xs : List Operand} {v : Value} {vs : List Value} (hx : ev ρ x = v) (h : xs.map (ev ρ) = vs) : (x :: xs).map (ev ρ) = v :: vs := by simp [hx, h]
theorem an : ([] : List Operand).map (ev ρ) = [] := rfl
theorem arr {xs : Array Operand} {vs : List Value} (h : xs.toList.map (ev ρ) = vs) : xs.map (ev ρ) = vs.toArray := by
  subst h; apply Array.toList_inj.1; simp
def Goes (P : Program) (f : FuncId) : Prop := ∀ (args : Array Value) (w : World), (callFunc f args).run P w = .ok (.enter f args) w
theorem goes {f : FuncId} {fn : Func} (hf : P.funcs[f]? = some fn) (hn : (fn.name == "runtime.NumGoroutine") = false) (hb : fn.body.isSome = true) : Goes P f := by
  intro args w
  have hb' : fn.body.isNone = false := by cases h : fn.body <;> simp_all
  simp only [callFunc, Sem.run_bind, run_program, Result.andThen_ok, hf, hn, hb', Bool.false_eq_true, if_false, Sem.run_pure]
/-- A named function is called, by its contract. -/
theorem cl {f : FuncId} {xs : Array Operand} {vs : List Value} {ts : Array TypeId} {Φ : Value → World → Prop} (hg : Goes P f) (hc : Ret P f vs.toArray w Φ) (hx : xs.toList.map (ev ρ) = vs) (h : ∀ v w', Φ v w' → L P n ops rest k Qf (updo ρ d v) ds w') :
    L P n ops (⟨d, .call ⟨.value (.func f), xs, ts⟩, ty, pos, af, none⟩ :: rest) k Qf ρ ds w := by
  refine opc (w' := w) (f := f) (args := vs.toArray) rfl ?_ hc h
  rw [← arr hx]
  simp [execOp, resolve, Deferred.ofValue, invoke, ev, hg _ w]
/-- A function value is called, by the contract of what it is. -/
theorem clv {x : Operand} {f : FuncId} {cap : List Value} {xs : Array Operand} {vs : List Value} {ts : Array TypeId} {Φ : Value → World → Prop} (hx : ev ρ x = .func (.func f) #[] cap.toArray) (hg : Goes P f) (hxs : xs.toList.map (ev ρ) = vs) (hc : Ret P f (vs ++ cap).toArray w Φ)
    (h : ∀ v w', Φ v w' → L P n ops rest k Qf (updo ρ d v) ds w') :
    L P n ops (⟨d, .call ⟨.value x, xs, ts⟩, ty, pos, af, none⟩ :: rest) k Qf ρ ds w := by
  refine opc (w' := w) (f := f) (args := (vs ++ cap).toArray) rfl ?_ hc h
  have := arr hxs
  simp [execOp, resolve, Deferred.ofValue, invoke, hx, hg _ w, this]
theorem xt {x : Operand} {i : Nat} {vs : Array Value} {v : Value} (hx : ev ρ x = .tuple vs) (hv : vs[i]? = some v) : Rn P ρ ⟨d, .extract x i, ty, pos, af, none⟩ w v :=
  ⟨rfl, fun w' _ => by simp [execOp, hx, Instr.extract, hv]⟩

theorem mf {fn : Fn} {first captured : Array Operand} {vs cs : List Value} (h1 : first.toList.map (ev ρ) = vs) (h2 : captured.toList.map (ev ρ) = cs) : Rn P ρ ⟨d, .makeFunc fn first captured, ty, pos, af, none⟩ w (.func fn vs.toArray cs.toArray) :=
  ⟨rfl, fun w' _ => by simp [execOp, Instr.makeFunc, arr h1, arr h2]⟩
/-! ### A struct is built -/
/-- A struct type's fields: where each lies, and its size. -/
def PL (P : Program) (t : TypeId) (pl : List (Nat × Nat)) : Prop := (match P.underlying t with
  | some (.struct fs) => fs.toList.mapM (fun f => (P.info? f.type).map fun i => (f.offset, i.size))
  | _ => none) = some pl
def fillL (pl : List (Nat × Nat)) : List Value → List (Nat × List Value) → Option (List Value)
  | cs, [] => some cs
  | cs, (i, v) :: r => match pl[i]? with
    | none => none
    | some (o, sz) => bif Nat.beq v.length sz && Nat.ble (o + v.length) cs.length then fillL pl (splice cs o v) r else none
theorem fold_splice (vs : List Value) (j o : Nat) (cs : Array Value) (h : o + j + vs.length ≤ cs.size) : ((vs.zipIdx j).foldl (fun a (c, i) => a.setIfInBounds (o + i) c) cs).toList = splice cs.toList (o + j) vs := by
  induction vs generalizing j cs with
  | nil => simp [splice]
  | cons v vs ih =>
    simp only [List.length_cons] at h
    rw [List.zipIdx_cons, List.foldl_cons, ih (j + 1) (cs.setIfInBounds (o + j) v) (by simp; omega)]
    simp only [splice, Array.toList_setIfInBounds, List.length_cons]
    apply List.ext_getElem?
    intro m
    simp only [List.getElem?_append, List.length_append, List.length_take, List.length_set, Array.length_toList, List.getElem?_take, List.getElem?_drop, List.getElem?_set, List.getElem?_cons, List.length_cons]
    have e1 : min (o + (j + 1)) cs.size = o + j + 1 := by omega
    have e2 : min (o + j) cs.size = o + j := by omega
    rw [e1, e2]
    by_cases c1 : m < o + j
    · simp [c1, show m < o + j + 1 by omega, show m < o + j + 1 + vs.length by omega, show m < o + j + (vs.length + 1) by omega, show ¬ o + j = m by omega, show m < o + (j + 1) by omega]
    · by_cases c2 : m = o + j
      · subst c2
        simp [show o + j < cs.size by omega, show o + j < o + (j + 1) by omega, show o + j < o + j + 1 + vs.length by omega]
      · obtain ⟨q, rfl⟩ : ∃ q, m = o + j + 1 + q := ⟨m - (o + j + 1), by omega⟩
        simp only [show ¬ o + j + 1 + q < o + j + 1 by omega, show ¬ o + j + 1 + q < o + j by omega, if_false, show ¬ o + j = o + (j + 1) + vs.length + (o + j + 1 + q - (o + j + 1 + vs.length)) by omega, show o + j + 1 + q - (o + j) = q + 1 by omega, show ¬ (q + 1 = 0) by omega, show o + j + 1 + q - (o + j + 1) = q by omega, show (o + j + 1 + q < o + j + 1 + vs.length) = (q < vs.length) from propext (by omega), show (o + j + 1 + q < o + j + (vs.length + 1)) = (q < vs.length) from propext (by omega)]
        by_cases c3 : q < vs.length
        · simp [c3]
        · simp only [c3, if_false]
          congr 1
          omega
theorem fill_L {pl : List (Nat × Nat)} {place : Nat → Option (Nat × Nat)} (hpl : ∀ i q, pl[i]? = some q → place i = some q) : ∀ {parts : List (Nat × Value)} {cs : Array Value} {L : List (Nat × List Value)} {r : List Value}, parts.map (fun p => (p.1, p.2.cells.toList)) = L → fillL pl cs.toList L = some r → Instr.fill place cs parts = some r.toArray
  | [], cs, L, r, hp, h => by
    subst hp
    simp only [List.map_nil, fillL, Option.some.injEq] at h
    subst h; simp [Instr.fill]
  | (i, v) :: ps, cs, L, r, hp, h => by
    subst hp
    simp only [List.map_cons, fillL] at h
    cases hi : pl[i]? with
    | none => simp [hi] at h
    | some q =>
      obtain ⟨o, sz⟩ := q
      simp only [hi] at h
      cases hb : (Nat.beq v.cells.toList.length sz && Nat.ble (o + v.cells.toList.length) cs.toList.length) with
      | false => rw [hb] at h; cases h
      | true =>
        simp only [hb, cond_true] at h
        simp only [Bool.and_eq_true, Nat.ble_eq, Nat.beq_eq, Array.length_toList] at hb
        have h1 : (v.cells.size ≠ sz || o + v.cells.size > cs.size) = false := by simp [hb.1]; omega
        have hf := fold_splice v.cells.toList 0 o cs (by simp; omega)
        simp only [Nat.add_zero] at hf
        rw [← hf] at h
        have := fill_L hpl (parts := ps) (cs := (v.cells.toList.zipIdx.foldl (fun a (c, i) => a.setIfInBounds (o + i) c) cs)) rfl h
        simp only [Instr.fill, hpl i _ hi, h1, Bool.false_eq_true, if_false]
        rw [← Array.foldl_toList, Array.toList_zipIdx]
        simpa using this
/-- The parts' cells. -/
theorem pc {i : Nat} {x : Operand} {xs : List (Nat × Operand)} {v : Value} {c : List Value} {L : List (Nat × List Value)} (hx : ev ρ x = v) (hc : v.cells.toList = c) (h : xs.map (fun p => (p.1, (ev ρ p.2).cells.toList)) = L) : ((i, x) :: xs).map (fun p => (p.1, (ev ρ p.2).cells.toList)) = (i, c) :: L := by simp [hx, hc, h]
theorem pn : ([] : List (Nat × Operand)).map (fun p => (p.1, (ev ρ p.2).cells.toList)) = [] := rfl
theorem cel1 {v : Value} (h : v.oneCell' = true) : v.cells.toList = [v] := by cases v <;> first | rfl | (simp [Value.oneCell'] at h; done)
theorem bd {t : TypeId} {parts : Array (Nat × Operand)} {pl : List (Nat × Nat)} {z : Value} {sz by_ : Nat} {L : List (Nat × List Value)} {r : List Value} (hi : TI P t z sz by_) (hpl : PL P t pl) (hp : parts.toList.map (fun p => (p.1, (ev ρ p.2).cells.toList)) = L) (hr : fillL pl z.cells.toList L = some r) : Rn P ρ ⟨d, .build t parts, ty, pos, af, none⟩ w (.agg r.toArray) := by
  refine ⟨rfl, fun w' _ => ?_⟩
  have hb : P.built t ((parts.map fun (i, x) => (i, ev ρ x)).toList) = some r.toArray := by
    have hm : ((parts.map fun (i, x) => (i, ev ρ x)).toList).map (fun p => (p.1, p.2.cells.toList)) = L := by
      rw [← hp]; simp
    obtain ⟨i0, hi0, hz, _, _⟩ := info_parts hi
    unfold PL at hpl
    unfold Program.built
    rw [hi0]
    cases hu : P.underlying t with
    | none => simp [hu] at hpl
    | some D =>
      cases D <;> try (simp [hu] at hpl; done)
      case struct fs =>
        simp only [hu] at hpl
        simp only [hz, hpl]
        exact fill_L (fun i q h => by simpa using h) hm hr
  simp only [execOp, Sem.run_bind, run_build w' t _ _ hb, Result.andThen_ok, Sem.run_pure]
/-! ### Lengths -/
theorem ln {α : Type} {dk : Kd α} {F : List Nat} {xs : List α} {x : Operand} {t e : TypeId} {v : Value} (ht : P.underlying t = some (.slice e)) (hx : ev ρ x = v) (hR : dk.R w F v xs) : Rn P ρ ⟨d, .call ⟨.builtin .len, #[x], #[t]⟩, ty, pos, af, none⟩ w (.int .i64 (xs.length : Int)) := by
  obtain ⟨A, c, rfl, _⟩ := hR.shape
  exact ⟨rfl, fun w' _ => by simp [execOp, resolve, invoke, builtin, Builtin.len_, run_underlying ht, hx, goInt]⟩
theorem lns {x : Operand} {t : TypeId} {s : ByteArray} (ht : P.underlying t = some .string) (hx : ev ρ x = .string s) : Rn P ρ ⟨d, .call ⟨.builtin .len, #[x], #[t]⟩, ty, pos, af, none⟩ w (.int .i64 (s.size : Int)) :=
  ⟨rfl, fun w' _ => by simp [execOp, resolve, invoke, builtin, Builtin.len_, run_underlying ht, hx, goInt]⟩

/-! ### New blocks, loads and stores -/
theorem alloc_B {cs : Array Value} {T : TypeId} (w : World) : B (w.alloc (.cells cs T)) w.heap.size T cs.toList := by
  have := b_alloc w cs.toList T
  rwa [Array.toArray_toList] at this
theorem al {t : TypeId} {z : Value} {sz by_ : Nat} (hi : TI P t z sz by_)
    (h : ∀ g w', g = w.heap.size → w'.heap.size = g + 1 → B w' g t z.cells.toList → Ch [] w w' → L P n ops rest k Qf (updo ρ d (.pointer (some ⟨g, 0, none⟩))) ds w') : L P n ops (⟨d, .alloc t, ty, pos, af, none⟩ :: rest) k Qf ρ ds w := by
  obtain ⟨i0, hi0, hz, _, _⟩ := info_parts hi
  refine opv (v := .pointer (some ⟨w.heap.size, 0, none⟩)) (w' := w.alloc (.cells z.cells t)) rfl ?_ (h _ _ rfl (by simp) (alloc_B w) (ch_alloc _ _))
  simp [execOp, Instr.alloc, zeroValue, typeInfo, hi0, hz, newVar, newRow, run_program]
theorem bx {t : TypeId} {x : Operand} {v : Value} (hx : ev ρ x = v)
    (h : ∀ g w', g = w.heap.size → w'.heap.size = g + 1 → B w' g t v.cells.toList → Ch [] w w' → L P n ops rest k Qf (updo ρ d (.pointer (some ⟨g, 0, none⟩))) ds w') : L P n ops (⟨d, .box t x, ty, pos, af, none⟩ :: rest) k Qf ρ ds w := by
  refine opv (v := .pointer (some ⟨w.heap.size, 0, none⟩)) (w' := w.alloc (.cells v.cells t)) rfl ?_ (h _ _ rfl (by simp) (alloc_B w) (ch_alloc _ _))
  simp [execOp, Instr.box, hx, newVar, newRow]
/-- The address of a field. -/
theorem fa' {s : TypeId} {x : Operand} {j : Nat} {p : Addr} {fs : Array Field} {f : Field} {sz : Nat} {z : Value} {by_ : Nat} (hs : P.underlying s = some (.struct fs)) (hf : fs[j]? = some f) (hi : TI P f.type z sz by_) (hp : Nat.blt 0 sz = true) (hx : ev ρ x = .pointer (some p)) : Rn P ρ ⟨d, .fieldAddr s x j, ty, pos, af, none⟩ w (.pointer (some (p.add f.offset))) := by
  obtain ⟨i0, hi0, hz, hsz, _⟩ := info_parts hi
  have hp' : 0 < sz := by simpa [Nat.blt_eq] using hp
  have hne : ¬ i0.size = 0 := by rw [hsz]; omega
  exact ⟨rfl, fun w' _ => by simp [execOp, Instr.fieldAt, run_underlying hs, hf, Instr.sureAddr, hx, fieldPlace, sizeOf, typeInfo, hi0, run_program, hne]⟩
theorem fa {s : TypeId} {x : Operand} {j g o : Nat} {fs : Array Field} {f : Field} {sz : Nat} {z : Value} {by_ : Nat} (hs : P.underlying s = some (.struct fs)) (hf : fs[j]? = some f) (hi : TI P f.type z sz by_) (hp : Nat.blt 0 sz = true) (hx : ev ρ x = .pointer (some ⟨g, o, none⟩)) : Rn P ρ ⟨d, .fieldAddr s x j, ty, pos, af, none⟩ w (.pointer (some ⟨g, o + f.offset, none⟩)) := by
  rw [← add_mk]
  exact fa' hs hf hi hp hx
/-- One cell is read. -/
theorem ld {t : TypeId} {x : Operand} {p : Addr} {v : Value} {D : TypeDesc} (ht : P.underlying t = some D) (hD : aggD D = false) (hx : ev ρ x = .pointer (some p)) (hc : w.cell? p = some v) : Rn P ρ ⟨d, .load t x, ty, pos, af, none⟩ w v := by
  refine ⟨rfl, fun w' hw => ?_⟩
  have hc' := hw.cell hc
  cases D <;> simp [aggD] at hD <;> simp [execOp, Instr.loadAt, Instr.sureAddr, hx, loadVar, isAgg, run_underlying ht, hc']
/-- A struct (an array) is read. -/
theorem la {t : TypeId} {x : Operand} {p : Addr} {D : TypeDesc} {z : Value} {sz by_ : Nat} (cs : List Value) (ht : P.underlying t = some D) (hD : aggD D = true) (hi : TI P t z sz by_) (hx : ev ρ x = .pointer (some p)) (hl : cs.length = sz) (hc : ∀ j u, cs[j]? = some u → w.cell? (p.add j) = some u) : Rn P ρ ⟨d, .load t x, ty, pos, af, none⟩ w (.agg cs.toArray) := by
  obtain ⟨i0, hi0, hz, hsz, _⟩ := info_parts hi
  refine ⟨rfl, fun w' hw => ?_⟩
  have hr := run_loadCells_list (P := P) w' p cs (fun j u hu => hw.cell (hc j u hu))
  cases D <;> simp [aggD] at hD <;> simp [execOp, Instr.loadAt, Instr.sureAddr, hx, loadVar, isAgg, run_underlying ht, sizeOf, typeInfo, hi0, run_program, hsz, ← hl, hr]
/-- Out of a block. -/
theorem ldb {t T : TypeId} {x : Operand} {g o : Nat} {cs : List Value} {v : Value} {D : TypeDesc} (ht : P.underlying t = some D) (hD : aggD D = false) (hx : ev ρ x = .pointer (some ⟨g, o, none⟩)) (hB : B w g T cs) (hc : cs[o]? = some v) : Rn P ρ ⟨d, .load t x, ty, pos, af, none⟩ w v := ld ht hD hx ((hB.cell o).trans hc)
theorem lab {t T : TypeId} {x : Operand} {g o : Nat} {D : TypeDesc} {z : Value} {sz by_ : Nat} {cs : List Value} (vs : List Value) (ht : P.underlying t = some D) (hD : aggD D = true) (hi : TI P t z sz by_) (hx : ev ρ x = .pointer (some ⟨g, o, none⟩)) (hB : B w g T cs) (hl : vs.length = sz) (hv : (cs.drop o).take sz = vs) : Rn P ρ ⟨d, .load t x, ty, pos, af, none⟩ w (.agg vs.toArray) := by
  refine la vs ht hD hi hx hl (fun j u hu => ?_)
  rw [add_mk, hB.cell]
  rw [← hv, List.getElem?_take] at hu
  split at hu
  · rwa [List.getElem?_drop] at hu
  · cases hu
theorem one_all {cs : List Value} (h : cs.all (fun u => u.oneCell') = true) : ∀ u, u ∈ cs → u.oneCell' = true := fun u hu => List.all_eq_true.1 h u hu
/-- A store into a block. -/
theorem st {t T : TypeId} {p x : Operand} {g o : Nat} {cs : List Value} {v z : Value} {sz by_ : Nat} (hi : TI P t z sz by_) (hp : ev ρ p = .pointer (some ⟨g, o, none⟩)) (hx : ev ρ x = v) (hB : B w g T cs) (hl : v.cells.toList.length = sz) (ho : o + sz ≤ cs.length) (h1 : ∀ u, u ∈ v.cells.toList → u.oneCell' = true)
    (h : ∀ w', w'.heap.size = w.heap.size → B w' g T (splice cs o v.cells.toList) → Ch [g] w w' → L P n ops rest k Qf (updo ρ d undef) ds w') : L P n ops (⟨d, .store t p x, ty, pos, af, none⟩ :: rest) k Qf ρ ds w := by
  obtain ⟨i0, hi0, hz, hsz, _⟩ := info_parts hi
  have hr := run_storeCells_at P g o T v.cells.toList 0 cs.toArray w hB (by simp only [Nat.add_zero, List.size_toArray]; omega) h1
  simp only [Nat.add_zero] at hr
  refine ops_ (w' := w.setRow g (cs.toArray.toList.take o ++ v.cells.toList ++ cs.toArray.toList.drop (o + v.cells.toList.length)).toArray) rfl ?_ (h _ (by simp [World.setRow]) ?_ (ch_setRow _ _ _))
  · have hl' : v.cells.size = sz := by rw [← hl]; simp
    simp [execOp, Instr.storeAt, Instr.sureAddr, hp, hx, storeVar, sizeOf, typeInfo, hi0, run_program, hsz, hl', hr]
  · have := setRow_heap w g cs.toArray (cs.take o ++ v.cells.toList ++ cs.drop (o + v.cells.toList.length)).toArray T (0, 0) hB
    simpa [B, splice] using this

/-! ### Results that lie in memory -/
theorem ones1 {v : Value} (h : v.oneCell' = true) : ∀ u, u ∈ [v] → u.oneCell' = true := fun u hu => by rw [List.mem_singleton.1 hu]; exact h
theorem st' {t T : TypeId} {p x : Operand} {g o : Nat} {cs vs : List Value} {v z : Value} {sz by_ : Nat} (hi : TI P t z sz by_) (hp : ev ρ p = .pointer (some ⟨g, o, none⟩)) (hx : ev ρ x = v) (hv : v.cells.toList = vs) (hB : B w g T cs) (hl : vs.length = sz) (ho : o + sz ≤ cs.length) (h1 : ∀ u, u ∈ vs → u.oneCell' = true)
    (h : ∀ w', w'.heap.size = w.heap.size → B w' g T (splice cs o vs) → Ch [g] w w' → L P n ops rest k Qf (updo ρ d undef) ds w') : L P n ops (⟨d, .store t p x, ty, pos, af, none⟩ :: rest) k Qf ρ ds w := by
  subst hv
  exact st hi hp hx hB hl ho h1 h
theorem run_cell {t T : TypeId} {D : TypeDesc} {z : Value} {sz by_ g : Nat} {cs : List Value} (ht : P.underlying t = some D) (hD : aggD D = true) (hi : TI P t z sz by_) (hl : cs.length = sz) (hB : B w g T cs) : (loadVar t ⟨g, 0, none⟩).run P w = .ok (.agg cs.toArray) w := by
  obtain ⟨i0, hi0, hz, hsz, _⟩ := info_parts hi
  have hr := run_loadCells_list (P := P) w ⟨g, 0, none⟩ cs (fun j u hu => by rw [add_mk, hB.cell, Nat.zero_add]; exact hu)
  cases D <;> simp [aggD] at hD <;> simp [loadVar, isAgg, run_underlying ht, sizeOf, typeInfo, hi0, run_program, hsz, ← hl, hr]
theorem finc {fn : Func} {Φ : Value → World → Prop} {p : Nat} {t T : TypeId} {D : TypeDesc} {z : Value} {sz by_ g : Nat} {cs : List Value} (hr : fn.results = #[.cell p t]) (ht : P.underlying t = some D) (hD : aggD D = true) (hi : TI P t z sz by_) (hp : ρ p = .pointer (some ⟨g, 0, none⟩)) (hB : B w g T cs) (hl : cs.length = sz)
    (h : Φ (.agg cs.toArray) w) : S P n [] (Fin P fn Φ) ρ [] w := by
  refine fing (v := .agg cs.toArray) (fun tmps ht' => ?_) h
  have e := ht' p
  rw [hp] at e
  simp only [Array.getD_eq_getD_getElem?] at e
  simp [results, hr, e, asAddr, run_cell ht hD hi hl hB]
theorem finct {fn : Func} {Φ : Value → World → Prop} {p u : Nat} {t T : TypeId} {D : TypeDesc} {z v' : Value} {sz by_ g : Nat} {cs : List Value} (hr : fn.results = #[.cell p t, .tmp u]) (ht : P.underlying t = some D) (hD : aggD D = true) (hi : TI P t z sz by_) (hp : ρ p = .pointer (some ⟨g, 0, none⟩)) (hB : B w g T cs) (hl : cs.length = sz) (hu : ρ u = v')
    (h : Φ (.tuple #[.agg cs.toArray, v']) w) : S P n [] (Fin P fn Φ) ρ [] w := by
  refine fing (v := .tuple #[.agg cs.toArray, v']) (fun tmps ht' => ?_) h
  have e := ht' p
  have e2 := ht' u
  rw [hp] at e
  rw [hu] at e2
  simp only [Array.getD_eq_getD_getElem?] at e e2
  simp [results, hr, e, e2, asAddr, run_cell ht hD hi hl hB]
/-! ### Rows -/
theorem TI.size {t : TypeId} {z : Value} {sz by_ : Nat} (h : TI P t z sz by_) : ∃ i, P.info? t = some i ∧ i.zero = some z ∧ i.size = sz ∧ i.bytes = by_ := info_parts h
/-- The address of an element, whatever it is. -/
theorem ix {t e : TypeId} {x i : Operand} {z : Value} {sz by_ : Nat} {ad : Addr} {len c j : Nat} {kd : IntKind} (ht : P.underlying t = some (.slice e)) (hi : TI P e z sz by_) (hx : ev ρ x = .slice (some ad) len c) (hj : ev ρ i = .int kd (j : Int)) (hlt : j < len) : Rn P ρ ⟨d, .indexAddr t x i, ty, pos, af, none⟩ w (.pointer (some (ad.add (j * sz)))) := by
  obtain ⟨i0, hi0, hz, hsz, _⟩ := hi.size
  refine ⟨rfl, fun w' _ => ?_⟩
  simp [execOp, Instr.indexAt, asIntOf, hx, hj, run_underlying ht, sizeOf, typeInfo, hi0, run_program, hsz]
  exact fun h' => absurd hlt (by omega)
/-- The element's place: an address that holds its cells. -/
def Plc {α : Type} (dk : Kd α) (w : World) (F : List Nat) (x : α) (ad : Addr) (cs : List Value) : Prop := ∃ Fi, (∀ k, k ∈ Fi → k ∈ F) ∧ dk.K w Fi x cs ∧ ∀ m u, cs[m]? = some u → w.cell? (ad.add m) = some u
theorem Kd.R.place {α : Type} {dk : Kd α} {F : List Nat} {xs : List α} {v : Value} (hR : dk.R w F v xs) (j : Nat) (hlt : j < xs.length) : ∃ c ad cs, v = .slice (some ad) xs.length c ∧ Plc dk w F xs[j] (ad.add (j * dk.sz)) cs := by
  obtain ⟨c, ad, Fi, ci, rfl, hF, hK, hc⟩ := hR.get j hlt
  refine ⟨c, ad, ci, rfl, Fi, hF, hK, fun m u hu => ?_⟩
  rw [add_add]
  exact hc m u hu
theorem Plc.cell {α : Type} {enc : α → Value} {h1 : ∀ x, (enc x).oneCell' = true} {F : List Nat} {x : α} {ad : Addr} {cs : List Value} (h : Plc (Kd.one1 enc h1) w F x ad cs) : w.cell? ad = some (enc x) := by
  obtain ⟨Fi, _, ⟨rfl, rfl⟩, hc⟩ := h
  have := hc 0 (enc x) (by simp)
  rwa [show ad.add 0 = ad by simp [Addr.add]] at this
/-! ### Building and appending -/
theorem run_bs1 {t e : TypeId} {z x : Value} {sz by_ : Nat} (ht : P.underlying t = some (.slice e)) (hi : TI P e z sz by_) (hz : z.cells.size = sz) (hp : 0 < sz) (hx : x.cells.size = sz) (hs : sz ≤ 1000) (w : World) :
    (Instr.buildSlice t 1 #[(0, x)]).run P w = .ok (.slice (some ⟨w.heap.size, 0, none⟩) 1 1) (w.alloc (.cells x.cells e)) := by
  obtain ⟨i0, hi0, hz0, hsz, _⟩ := hi.size
  have hfill : ∀ (l : List Value) (cs : Array Value) (o : Nat), o + l.length ≤ cs.size → (l.zipIdx o).foldl (fun cs (p : Value × Nat) => cs.setIfInBounds (0 + p.2) p.1) cs = (cs.toList.take o ++ l ++ cs.toList.drop (o + l.length)).toArray := by
    intro l
    induction l with
    | nil => intro cs o ho; simp
    | cons a l ih =>
      intro cs o ho
      simp only [List.zipIdx_cons, List.foldl_cons, Nat.zero_add]
      have hlt : o < cs.size := by simp at ho; omega
      have := ih (cs.setIfInBounds o a) (o + 1) (by simp at ho ⊢; omega)
      simp only [Nat.zero_add] at this
      rw [this, Array.toList_setIfInBounds]
      have e := list_seg_step cs.toList o a l (by simp at ho ⊢; omega)
      simpa [Nat.add_assoc, Nat.add_comm 1] using e
  have hf := hfill x.cells.toList ((Array.range (1 * sz)).map (z.cells[· % z.cells.size]!)) 0 (by simp [hx])
  simp only [List.take_zero, List.nil_append, Nat.zero_add, Array.length_toList] at hf
  rw [List.drop_of_length_le (by simp [hx]), List.append_nil, Array.toArray_toList] at hf
  have hne : ¬ sz = 0 := by omega
  have hle : ¬ (16777216 < sz) := by omega
  have hz' : z.cells.size = i0.size := by rw [hz, hsz]
  have hx' : x.cells.size = i0.size := by rw [hx, hsz]
  subst hsz
  simp only [Nat.one_mul] at hf
  have hzip : x.cells.zipIdx.foldl (fun (cs : Array Value) (p : Value × Nat) => cs.setIfInBounds (0 + p.2) p.1) ((Array.range i0.size).map (z.cells[· % z.cells.size]!)) = x.cells := by
    rw [← Array.foldl_toList, Array.toList_zipIdx]
    simpa using hf
  simp only [Nat.zero_add] at hzip
  simp [Instr.buildSlice, run_underlying ht, sizeOf, typeInfo, hi0, run_program, hne, hle, zeroValue, hz0, Instr.fill, hx', newRow]
  congr 2
  simpa [hx'] using hzip
end

/-! ### Regions that draw their order and only read -/
section
variable {P : Program} {n : Nat} {k : List It} {Qf : Exit → Act → World → Prop} {ρ : Fr} {ds : List Deferred} {w : World}
variable {ops : Array Oper} {rest : List Oper} {K : Fr → Prop}
def M (P : Program) (n : Nat) (ds : List Deferred) (ops : Array Oper) (rest : List Oper) (ρ : Fr) (w : World) (K : Fr → Prop) : Prop :=
  okl n rest = true → ∀ a, Sim n ρ ds a → wpQuiet P ops (fun w' => Ch [] w w') (fun a' => ∃ ρ', Sim n ρ' ds a' ∧ K ρ') rest a
theorem me (h : K ρ) : M P n ds ops [] ρ w K := fun _ a ha => ⟨ρ, ha, h⟩
theorem q {o : Oper} {v : Value} (hr : Rn P ρ o w v) (h : M P n ds ops rest (updo ρ o.dst v) w K) : M P n ds ops (o :: rest) ρ w K := by
  intro hl a ha
  simp only [okl, Bool.and_eq_true] at hl
  have hw : Region.wanted o (yielded ops a.tmps) = true := by simp [Region.wanted, hr.1]
  simp only [wpQuiet, hw, if_true]
  refine ⟨v, fun w' hc => ?_, h hl.2 _ (ha.put o.dst hl.1 v)⟩
  unfold Oper.quietAt
  rw [ha.eval, hr.2 w' hc]
  exact ⟨rfl, rfl⟩
def vb : Value → Option Bool
  | .bool b => some b
  | _ => none
theorem yld {a : Act} {j t : Nat} {v : Value} (ha : Sim n ρ ds a) (hj : (ops[j]?).bind (·.dst) = some t) (ht : ρ t = v) (hn : Nat.blt t n = true) : yielded ops a.tmps j = vb v := by
  have hlt : t < a.tmps.size := by rw [ha.size]; simpa [Nat.blt_eq] using hn
  have h1 := ha.slot t
  rw [ht, Array.getD_eq_getD_getElem?, Array.getElem?_eq_getElem hlt] at h1
  simp only [Option.getD_some] at h1
  simp only [yielded, hj, Option.bind_some, Array.getElem?_eq_getElem hlt, h1]
  cases v <;> rfl
theorem gyq {d : Option Nat} {op : Op} {ty : TypeId} {pos : String} {af : Array Edge} {j t : Nat} {b : Bool} (hj : (ops[j]?).bind (·.dst) = some t) (ht : ρ t = .bool b) (hn : Nat.blt t n = true)
    (h : M P n ds ops (⟨d, op, ty, pos, af, none⟩ :: rest) ρ w K) : M P n ds ops (⟨d, op, ty, pos, af, some (j, b)⟩ :: rest) ρ w K := by
  intro hl a ha
  have hy := yld (ops := ops) ha hj ht hn
  have := h hl a ha
  simp only [wpQuiet, Region.wanted, hy, vb, beq_self_eq_true, if_true] at this ⊢
  exact this
theorem gnq {d : Option Nat} {op : Op} {ty : TypeId} {pos : String} {af : Array Edge} {j t : Nat} {b : Bool} (hj : (ops[j]?).bind (·.dst) = some t) (ht : ρ t = .bool (!b)) (hn : Nat.blt t n = true)
    (h : M P n ds ops rest (updo ρ d undef) w K) : M P n ds ops (⟨d, op, ty, pos, af, some (j, b)⟩ :: rest) ρ w K := by
  intro hl a ha
  simp only [okl, Bool.and_eq_true] at hl
  have hy := yld (ops := ops) ha hj ht hn
  have hne : ¬ Region.wanted ⟨d, op, ty, pos, af, some (j, b)⟩ (yielded ops a.tmps) = true := by cases b <;> simp [Region.wanted, hy, vb]
  unfold wpQuiet
  rw [if_neg hne]
  exact h hl.2 _ (ha.put d hl.1 undef)
theorem wpQuiet_mono_ {C : World → Prop} {Q Q' : Act → Prop} (h : ∀ a, Q a → Q' a) : ∀ (l : List Oper) (a : Act), wpQuiet P ops C Q l a → wpQuiet P ops C Q' l a
  | [], a, hq => h a hq
  | o :: l, a, hq => by
    unfold wpQuiet at hq ⊢
    split
    · rename_i hw; rw [if_pos hw] at hq; exact Oper.quiet_mono (fun a' => wpQuiet_mono_ h l a') hq
    · rename_i hw; rw [if_neg hw] at hq; exact wpQuiet_mono_ h l _ hq
theorem spq (t : Nat) {p : Prop} [Decidable p] (ht : ρ t = .bool (decide p)) (hT : p → M P n ds ops rest (upd ρ t (.bool true)) w K) (hF : ¬ p → M P n ds ops rest (upd ρ t (.bool false)) w K) : M P n ds ops rest ρ w K := by
  by_cases h : p
  · have := hT h; rwa [upd_self ρ t _ (by rw [ht, decide_eq_true h])] at this
  · have := hF h; rwa [upd_self ρ t _ (by rw [ht, decide_eq_false h])] at this
/-- The region: one walk of the text's order; then in whatever world has come of it. -/
theorem rd {id : Nat} {l : List Oper} (hm : P.follows .mixedOrders = true) (hB : Region.lexB .any l.toArray = true)
    (h : M P n ds l.toArray l ρ w (fun ρ' => ∀ w', Ch [] w w' → S P n k Qf ρ' ds w')) : S P n (.c (.region id l.toArray true) :: k) Qf ρ ds w := by
  intro hk a ha
  simp only [okk, okc, Bool.and_eq_true] at hk
  refine wp_region_quiet (C := fun w' => Ch [] w w') hm hB (ch_drew w _) ?_
  have := h hk.1 a ha
  simp only at this ⊢
  refine wpQuiet_mono_ (fun a' ⟨ρ', hs, hK⟩ w' hw' => hK w' hw' hk.2 a' hs) _ _ this
end
end Go.Eng

namespace Go.Eng
set_option linter.unusedVariables false
set_option linter.unusedSimpArgs false

theorem nodup_app {α : Type} {a b : List α} : (a ++ b).Nodup ↔ a.Nodup ∧ b.Nodup ∧ ∀ x, x ∈ a → x ∉ b := by
  rw [List.nodup_append]
  constructor
  · rintro ⟨h1, h2, h3⟩
    exact ⟨h1, h2, fun x hx hb => h3 x hx x hb rfl⟩
  · rintro ⟨h1, h2, h3⟩
    exact ⟨h1, h2, fun x hx y hy e => h3 x hx (e ▸ hy)⟩
theorem own_toList {v : Value} {k : Nat} : k ∈ v.ownBlock.toList ↔ v.ownBlock = some k := by
  cases v.ownBlock <;> simp [eq_comm]

section
variable {P : Program} {n : Nat} {k : List It} {Qf : Exit → Act → World → Prop} {ρ : Fr} {ds : List Deferred} {w : World}
variable {ops : Array Oper} {rest : List Oper} {d : Option Nat} {ty : TypeId} {pos : String} {af : Array Edge}

/-- What an append leaves: the row as it now stands, its blocks out of the elder ones or new. -/
structure Apd {α : Type} (dk : Kd α) (e : TypeId) (w w' : World) (F G F' : List Nat) (v v' : Value) (xs : List α) : Prop where
  W : dk.W e w' F' v' xs
  nd : F'.Nodup
  sub : ∀ k, k ∈ F' → k ∈ F ∨ k ∈ G ∨ w.heap.size ≤ k
  ch : Ch v.ownBlock.toList w w'

theorem W_own {α : Type} {dk : Kd α} {e : TypeId} {w : World} {F : List Nat} {v : Value} {xs : List α} (h : dk.W e w F v xs) : ∀ k, k ∈ v.ownBlock.toList → k ∈ F := by
  obtain ⟨Fs, cs, _, rfl, _⟩ := h
  exact fun k hk => List.mem_append_left _ hk

theorem run_ap {α : Type} {dk : Kd α} {t e : TypeId} {z : Value} {by_ : Nat} (ht : P.underlying t = some (.slice e)) (hi : TI P e z dk.sz by_) (hz : z.cells.size = dk.sz) {F G : List Nat} {v : Value} {xs ys : List α} (hW : dk.W e w F v xs)
    (hn : (F ++ G).Nodup) (a : Addr) (c : Nat) (news : List Value) (hE : Els (dk.O w) G ys news) (hc : ∀ j u, news[j]? = some u → w.cell? (a.add j) = some u) (hb : (xs.length + ys.length) * by_ ≤ 140737488355328) (hb' : xs.length + ys.length ≤ 140737488355328) :
    ∃ v' w' F', (Builtin.append_ #[t, t] ty #[v, .slice (some a) ys.length c]).run P w = .ok v' w' ∧ Apd dk e w w' F G F' v v' (xs ++ ys) := by
  obtain ⟨i0, hi0, hz0, hsz, hby⟩ := hi.size
  have hW' := hW
  obtain ⟨Fs, cs, ho, rfl, he⟩ := hW
  have hl : news.length = ys.length * dk.sz := hE.length (fun _ _ _ h => dk.len (dk.own h))
  have h1 : ∀ u, u ∈ news → u.oneCell' = true := hE.all (fun _ _ _ h => dk.one (dk.own h))
  obtain ⟨v', w', hr, h2, h3, _, h5⟩ := run_append_own_at (P := P) w 0 t ty e i0 z dk.sz by_ ht hi0 hz0 hsz hby hz dk.pos v xs.length cs ho a ys.length c news hl hc h1 (by simp only [maxLen]; omega) hb (Nat.zero_le _)
  have hch : Ch v.ownBlock.toList w w' := ⟨h3.os, h3.tape, h3.output, h3.size, fun k hk hnk => h3.block k hk (fun e => hnk (own_toList.2 e.symm))⟩
  have hn' := nodup_app.1 hn
  have hn2 := nodup_app.1 hn'.1
  have hFlt : ∀ k, k ∈ Fs → k < w.heap.size := fun k hk => hW'.lt k (List.mem_append_right _ hk)
  have hGlt : ∀ k, k ∈ G → k < w.heap.size := hE.blocks (p := (· < w.heap.size)) (fun _ _ _ h => dk.lt (dk.own h))
  have hFne : ∀ k, k ∈ Fs → k ∉ v.ownBlock.toList := fun k hk ho' => hn2.2.2 k ho' hk
  have hGne : ∀ k, k ∈ G → k ∉ v.ownBlock.toList := fun k hk ho' => hn'.2.2 k (List.mem_append_left _ ho') hk
  refine ⟨v', w', v'.ownBlock.toList ++ (Fs ++ G), hr, ⟨⟨Fs ++ G, cs ++ news, by simpa using h2, rfl, ?_⟩, ?_, ?_, hch⟩⟩
  · refine Els.app (R := dk.O w') (ys := ys) ?_ ?_
    · exact hE.imp (fun G' x c hG' hx => dk.mvO (fun k hk => hch.blk k (hGlt k (hG' k hk)) (hGne k (hG' k hk))) hx)
    · exact he.imp (fun G' x c hG' hx => dk.mvO (fun k hk => hch.blk k (hFlt k (hG' k hk)) (hFne k (hG' k hk))) hx)
  · refine nodup_app.2 ⟨by cases v'.ownBlock <;> simp, nodup_app.2 ⟨hn2.2.1, hn'.2.1, fun x hx hg => hn'.2.2 x (List.mem_append_right _ hx) hg⟩, fun x hx hfg => ?_⟩
    rcases h5 with h5 | h5
    · rw [h5] at hx
      rcases List.mem_append.1 hfg with hf | hg
      · exact hFne x hf hx
      · exact hGne x hg hx
    · rw [h5] at hx
      have hx' : x = w.heap.size := by simpa using hx
      rcases List.mem_append.1 hfg with hf | hg
      · have := hFlt x hf; omega
      · have := hGlt x hg; omega
  · intro k hk
    rcases List.mem_append.1 hk with hk | hk
    · rcases h5 with h5 | h5
      · rw [h5] at hk; exact .inl (List.mem_append_left _ hk)
      · rw [h5] at hk
        have : k = w.heap.size := by simpa using hk
        exact .inr (.inr (by omega))
    · rcases List.mem_append.1 hk with hk | hk
      · exact .inl (List.mem_append_right _ hk)
      · exact .inr (.inl hk)

/-- 's = append(s, x)': the one-cell block of x, then the append. -/
theorem ap1 {α : Type} {dk : Kd α} {t e : TypeId} {z : Value} {by_ : Nat} {s x : Operand} {F G : List Nat} {v vx : Value} {xs : List α} {a : α} {d1 : Nat} {d2 : Option Nat} {ty2 : TypeId} {pos2 : String} {af2 : Array Edge}
    (ht : P.underlying t = some (.slice e)) (hi : TI P e z dk.sz by_) (hz : z.cells.size = dk.sz) (hs : ∀ p, ev (upd ρ d1 p) s = v) (hx : ev ρ x = vx) (hW : dk.W e w F v xs) (hE : dk.O w G a vx.cells.toList) (hn : (F ++ G).Nodup) (hb : (xs.length + 1) * by_ ≤ 140737488355328 ∧ xs.length + 1 ≤ 140737488355328) (hs0 : Nat.ble dk.sz 1000 = true)
    (h : ∀ p v' w' F', Apd dk e w w' F G F' v v' (xs ++ [a]) → L P n ops rest k Qf (updo (upd ρ d1 p) d2 v') ds w') :
    L P n ops (⟨some d1, .buildSlice t 1 #[(0, x)], ty, pos, af, none⟩ :: ⟨d2, .call ⟨.builtin .append, #[s, .tmp d1], #[t, t]⟩, ty2, pos2, af2, none⟩ :: rest) k Qf ρ ds w := by
  have hlx : vx.cells.size = dk.sz := by have := dk.len (dk.own hE); simpa using this
  have hrun := run_bs1 (P := P) ht hi hz dk.pos hlx (Nat.le_of_ble_eq_true hs0) w
  refine opv (v := .slice (some ⟨w.heap.size, 0, none⟩) 1 1) (w' := w.alloc (.cells vx.cells e)) rfl (by simp only [execOp, Array.map, List.map_toArray, List.map_cons, List.map_nil, hx, Sem.run_bind, Sem.run_pure] <;> simp [hx, hrun]) ?_
  have hc0 := ch_alloc w (.cells vx.cells e)
  have hB := alloc_B (cs := vx.cells) (T := e) w
  obtain ⟨v', w', F', hr, hA⟩ := run_ap (P := P) (ty := ty2) (dk := dk) (w := w.alloc (.cells vx.cells e)) ht hi hz (hW.t hc0) (G := G) (ys := [a]) hn ⟨w.heap.size, 0, none⟩ 1 vx.cells.toList ⟨G, [], vx.cells.toList, [], by simp, by simp, dk.mvO (fun k hk => hc0.blk k (dk.lt (dk.own hE) k hk) (by simp)) hE, rfl, rfl⟩
    (fun j u hu => by rw [add_mk, hB.cell, Nat.zero_add]; exact hu) hb.1 hb.2
  refine opv (v := v') (w' := w') rfl ?_ (h _ v' w' F' ⟨hA.W, hA.nd, fun k hk => ?_, ?_⟩)
  · have h1 : ev (updo ρ (some d1) (.slice (some ⟨w.heap.size, 0, none⟩) 1 1)) s = v := hs _
    have h2 : ev (updo ρ (some d1) (.slice (some ⟨w.heap.size, 0, none⟩) 1 1)) (.tmp d1) = .slice (some ⟨w.heap.size, 0, none⟩) 1 1 := by simp [ev, updo, upd]
    simp only [List.length_singleton] at hr
    simp [execOp, resolve, invoke, builtin, h1, h2, hr]
  · rcases hA.sub k hk with h | h | h
    · exact .inl h
    · exact .inr (.inl h)
    · exact .inr (.inr (by simp at h; omega))
  · exact hc0.mono (fun k hk => by cases hk) |>.trans hA.ch (fun k hk _ => hk)

/-! ### Stores into a row of one's own; make -/
theorem Kd.W.split {α : Type} {dk : Kd α} {e : TypeId} {F : List Nat} {v : Value} {xs : List α} (h : dk.W e w F v xs) (j : Nat) (hj : j < xs.length) : ∃ g cap cur Fa Fi Fb ca ci cb, v = .slice (some ⟨g, 0, none⟩) xs.length cap ∧ w.heap[g]? = some (.cells cur e (0, 0)) ∧ F = g :: (Fa ++ (Fi ++ Fb)) ∧
    cur.toList.take (xs.length * dk.sz) = ca ++ (ci ++ cb) ∧ ca.length = j * dk.sz ∧ ci.length = dk.sz ∧ Els (dk.O w) Fa (xs.take j) ca ∧ dk.O w Fi xs[j] ci ∧ Els (dk.O w) Fb (xs.drop (j + 1)) cb ∧ xs.length ≤ cap ∧ cap ≤ maxLen ∧ cur.size = cap * dk.sz := by
  obtain ⟨Fs, cs, ho, rfl, he⟩ := h
  rcases ho.2 with ⟨rfl, hn⟩ | ⟨g, cap, cur, rfl, _, hh, hnc, hcm, hcs, htake⟩
  · omega
  · obtain ⟨Fa, Fi, Fb, ca, ci, cb, rfl, rfl, hca, hci, h1, h2, h3⟩ := he.at (fun _ _ _ h => dk.len (dk.own h)) j hj
    exact ⟨g, cap, cur, Fa, Fi, Fb, ca, ci, cb, rfl, hh, by simp [Value.ownBlock], htake, hca, hci, h1, h2, h3, hnc, hcm, hcs⟩
theorem row_put {cur : List Value} {m a n' : Nat} {ca ci cb ci' : List Value} (ht : cur.take m = ca ++ (ci ++ cb)) (hm : m ≤ cur.length) (hl : ci'.length = ci.length) (ha : ca.length = a) (hn : ci.length = n') :
    (cur.take a ++ ci' ++ cur.drop (a + n')).take m = ca ++ (ci' ++ cb) ∧ (cur.take a ++ ci' ++ cur.drop (a + n')).length = cur.length := by
  have hlen : m = ca.length + (ci.length + cb.length) := by
    have := congrArg List.length ht
    simp only [List.length_take, List.length_append] at this
    omega
  have hcur : cur = ca ++ (ci ++ cb) ++ cur.drop m := by rw [← ht, List.take_append_drop]
  subst ha hn
  generalize cur.drop m = tl at hcur
  subst hcur
  subst hlen
  constructor
  · have h1 : (ca ++ (ci ++ cb) ++ tl).take ca.length = ca := by simp [List.append_assoc]
    have h2 : (ca ++ (ci ++ cb) ++ tl).drop (ca.length + ci.length) = cb ++ tl := by
      rw [← List.drop_drop]
      simp [List.append_assoc]
    rw [h1, h2]
    have : ca ++ ci' ++ (cb ++ tl) = (ca ++ (ci' ++ cb)) ++ tl := by simp [List.append_assoc]
    rw [this, ← hl]
    have hq : ca.length + (ci'.length + cb.length) = (ca ++ (ci' ++ cb)).length := by simp
    rw [hq, List.take_left]
  · simp only [List.length_append, List.length_take, List.length_drop]
    omega
/-- Element j is written anew. -/
theorem Kd.W.put {α : Type} {dk : Kd α} {e : TypeId} {F G : List Nat} {v : Value} {xs : List α} (h : dk.W e w F v xs) (j : Nat) (hj : j < xs.length) {y : α} {ci' : List Value} (hy : dk.O w G y ci') (hn : (F ++ G).Nodup) :
    ∃ g cap cur F', v = .slice (some ⟨g, 0, none⟩) xs.length cap ∧ w.heap[g]? = some (.cells cur e (0, 0)) ∧ j * dk.sz + dk.sz ≤ cur.size ∧ ci'.length = dk.sz ∧
      Apd dk e w (w.setRow g (cur.toList.take (j * dk.sz) ++ ci' ++ cur.toList.drop (j * dk.sz + ci'.length)).toArray) F G F' v v (xs.set j y) := by
  have hlt := h.lt
  obtain ⟨g, cap, cur, Fa, Fi, Fb, ca, ci, cb, rfl, hh, rfl, ht, hca, hci, ha, hi, hb, hnc, hcm, hcs⟩ := h.split j hj
  have hci' : ci'.length = dk.sz := dk.len (dk.own hy)
  have hsz : xs.length * dk.sz ≤ cur.size := by rw [hcs]; exact Nat.mul_le_mul_right _ hnc
  have hjs : j * dk.sz + dk.sz ≤ cur.size := by
    have : (j + 1) * dk.sz ≤ xs.length * dk.sz := Nat.mul_le_mul_right _ hj
    rw [Nat.add_mul, Nat.one_mul] at this
    omega
  obtain ⟨r1, r2⟩ := row_put (ci' := ci') ht (by simpa using hsz) (by rw [hci', hci]) hca hci
  have hn' := nodup_app.1 hn
  have hnd := List.nodup_cons.1 hn'.1
  have hnd2 := nodup_app.1 hnd.2
  have hnd3 := nodup_app.1 hnd2.2.1
  have hgG : g ∉ G := fun hg => hn'.2.2 g (by simp) hg
  have hch := ch_setRow w g (cur.toList.take (j * dk.sz) ++ ci' ++ cur.toList.drop (j * dk.sz + ci'.length)).toArray
  have hmv : ∀ k, k ∈ Fa ++ (Fi ++ Fb) ∨ k ∈ G → (w.setRow g (cur.toList.take (j * dk.sz) ++ ci' ++ cur.toList.drop (j * dk.sz + ci'.length)).toArray).heap[k]? = w.heap[k]? := by
    intro k hk
    refine hch.blk k ?_ ?_
    · rcases hk with hk | hk
      · exact hlt k (List.mem_cons_of_mem _ hk)
      · exact dk.lt (dk.own hy) k hk
    · intro hg
      obtain rfl := List.mem_singleton.1 hg
      rcases hk with hk | hk
      · exact hnd.1 hk
      · exact hgG hk
  refine ⟨g, cap, cur, g :: (Fa ++ (G ++ Fb)), rfl, hh, hjs, hci', ⟨?_, ?_, ?_, ?_⟩⟩
  · refine ⟨Fa ++ (G ++ Fb), ca ++ (ci' ++ cb), ⟨?_, .inr ⟨g, cap, _, by simp, Nat.zero_le _, setRow_heap w g cur _ e _ hh, by simpa using hnc, hcm, ?_, ?_⟩⟩, by simp [Value.ownBlock], ?_⟩
    · have hl1 := ha.length (sz := dk.sz) (fun _ _ _ h => dk.len (dk.own h))
      have hl2 := hb.length (sz := dk.sz) (fun _ _ _ h => dk.len (dk.own h))
      have hl3 : (cur.toList.take (xs.length * dk.sz)).length = xs.length * dk.sz := by rw [List.length_take]; simp; omega
      rw [ht] at hl3
      simp only [List.length_append, List.length_set] at hl3 ⊢
      omega
    · rw [hci'] at *
      have := r2
      simp only [List.size_toArray]
      rw [this]; simpa using hcs
    · rw [hci', List.toList_toArray, List.length_set]
      exact r1
    · exact Els.put (R := dk.O _) hj (ha.imp (fun G' x c hG' hx => dk.mvO (fun k hk => hmv k (.inl (List.mem_append_left _ (hG' k hk)))) hx)) (dk.mvO (fun k hk => hmv k (.inr hk)) hy)
        (hb.imp (fun G' x c hG' hx => dk.mvO (fun k hk => hmv k (.inl (List.mem_append_right _ (List.mem_append_right _ (hG' k hk))))) hx))
  · refine List.nodup_cons.2 ⟨fun hg => ?_, nodup_app.2 ⟨hnd2.1, nodup_app.2 ⟨hn'.2.1, hnd3.2.1, fun x hx hb' => hn'.2.2 x (by simp [hb']) hx⟩, fun x hx hgb => ?_⟩⟩
    · rcases List.mem_append.1 hg with hg | hg
      · exact hnd.1 (List.mem_append_left _ hg)
      · rcases List.mem_append.1 hg with hg | hg
        · exact hgG hg
        · exact hnd.1 (List.mem_append_right _ (List.mem_append_right _ hg))
    · rcases List.mem_append.1 hgb with hg | hg
      · exact hn'.2.2 x (by simp [hx]) hg
      · exact hnd2.2.2 x hx (List.mem_append_right _ hg)
  · intro k hk
    rcases List.mem_cons.1 hk with rfl | hk
    · exact .inl (by simp)
    · rcases List.mem_append.1 hk with hk | hk
      · exact .inl (by simp [hk])
      · rcases List.mem_append.1 hk with hk | hk
        · exact .inr (.inl hk)
        · exact .inl (by simp [hk])
  · simpa [Value.ownBlock] using hch

/-- 'xs[j] = y': the address, then the store. -/
theorem ixs {α : Type} {dk : Kd α} {F G : List Nat} {xs : List α} {v vy : Value} {t e e' : TypeId} {x i y : Operand} {z : Value} {by_ : Nat} {j : Nat} {kd : IntKind} {a : α} {d1 : Nat} {ty2 : TypeId} {pos2 : String} {af2 : Array Edge}
    (ht : P.underlying t = some (.slice e)) (hi : TI P e z dk.sz by_) (hx : ev ρ x = v) (hW : dk.W e' w F v xs) (hj : ev ρ i = .int kd (j : Int)) (hlt : j < xs.length) (hy : ∀ p, ev (upd ρ d1 p) y = vy) (hE : dk.O w G a vy.cells.toList) (hn : (F ++ G).Nodup)
    (h : ∀ p w' F', w'.heap.size = w.heap.size → Apd dk e' w w' F G F' v v (xs.set j a) → L P n ops rest k Qf (upd ρ d1 p) ds w') :
    L P n ops (⟨some d1, .indexAddr t x i, ty, pos, af, none⟩ :: ⟨none, .store e (.tmp d1) y, ty2, pos2, af2, none⟩ :: rest) k Qf ρ ds w := by
  obtain ⟨g, cap, cur, F', rfl, hh, hjs, hcl, hA⟩ := hW.put j hlt hE hn
  obtain ⟨i0, hi0, hz, hsz, _⟩ := hi.size
  refine r (v := .pointer (some ((⟨g, 0, none⟩ : Addr).add (j * dk.sz)))) (ix ht hi hx hj hlt) ?_
  have hr := run_storeCells_at P g (j * dk.sz) e' vy.cells.toList 0 cur w hh (by omega) (dk.one (dk.own hE))
  simp only [Nat.add_zero] at hr
  refine ops_ (w' := w.setRow g (cur.toList.take (j * dk.sz) ++ vy.cells.toList ++ cur.toList.drop (j * dk.sz + vy.cells.toList.length)).toArray) rfl ?_ (h _ _ F' (by simp [World.setRow]) hA)
  have h1 : ev (updo ρ (some d1) (.pointer (some ((⟨g, 0, none⟩ : Addr).add (j * dk.sz))))) y = vy := hy _
  have h2 : ev (updo ρ (some d1) (.pointer (some ((⟨g, 0, none⟩ : Addr).add (j * dk.sz))))) (.tmp d1) = .pointer (some ((⟨g, 0, none⟩ : Addr).add (j * dk.sz))) := by simp [ev, updo, upd]
  have hl' : vy.cells.size = dk.sz := by have := hcl; simpa using this
  rw [add_mk, Nat.zero_add] at h2
  simp only [add_mk, Nat.zero_add] at h1 ⊢
  simp [execOp, Instr.storeAt, Instr.sureAddr, h1, h2, storeVar, sizeOf, typeInfo, hi0, run_program, hsz, hl', hr]

/-- The elements that make lays. -/
theorem els_made {α : Type} {R : List Nat → α → List Value → Prop} {a : α} {c : List Value} (h : R [] a c) (m : Nat) : Els R [] (List.replicate m a) (List.replicate m c).flatten := by
  induction m with
  | zero => exact ⟨rfl, rfl⟩
  | succ m ih => exact ⟨[], [], c, _, rfl, by simp [List.replicate_succ], h, ih⟩
theorem made_flat (z : Array Value) (hz : 0 < z.size) (m : Nat) : (madeCells z (m * z.size)).toList = (List.replicate m z.toList).flatten := by
  induction m with
  | zero => simp [madeCells]
  | succ m ih =>
    rw [List.replicate_succ', List.flatten_append, ← ih]
    apply List.ext_getElem?
    intro i
    simp only [madeCells, Array.toList_map, Array.toList_range, List.getElem?_map, List.flatten_singleton]
    by_cases h1 : i < m * z.size
    · rw [List.getElem?_append_left (by simpa using h1), List.getElem?_map, List.getElem?_range (by rw [Nat.add_mul]; omega), List.getElem?_range h1]
    · rw [List.getElem?_append_right (by simp; omega)]
      by_cases h2 : i < (m + 1) * z.size
      · rw [List.getElem?_range h2]
        rw [Nat.add_mul, Nat.one_mul] at h2
        have : i % z.size = i - m * z.size := by
          have e : i = (i - m * z.size) + z.size * m := by rw [Nat.mul_comm z.size m]; omega
          rw [e, Nat.add_mul_mod_self_left, Nat.mod_eq_of_lt (by omega)]
          rw [Nat.mul_comm z.size m]; omega
        simp only [List.length_map, List.length_range, Option.map_some, this]
        have h3 : i - m * z.size < z.size := by omega
        simp [h3]
      · rw [List.getElem?_eq_none (by simp; omega), List.getElem?_eq_none (by simp; rw [Nat.add_mul] at h2; omega)]
        rfl
theorem mk {α : Type} {dk : Kd α} {t e : TypeId} {x y : Operand} {z : Value} {by_ : Nat} {m : Nat} {kl kc : IntKind} (a : α) (ht : P.underlying t = some (.slice e)) (hi : TI P e z dk.sz by_) (hz : ∀ w, dk.O w [] a z.cells.toList) (hx : ev ρ x = .int kl (m : Int)) (hy : ev ρ y = .int kc (m : Int)) (hb : by_ * m ≤ 281474976710656 ∧ m ≤ 281474976710656)
    (h : ∀ v w' F, dk.W e w' F v (List.replicate m a) → F.Nodup → (∀ k, k ∈ F → w.heap.size ≤ k) → Ch [] w w' → L P n ops rest k Qf (updo ρ d v) ds w') : L P n ops (⟨d, .makeSlice t x y, ty, pos, af, none⟩ :: rest) k Qf ρ ds w := by
  obtain ⟨i0, hi0, hz0, hsz, hby⟩ := hi.size
  obtain ⟨w', hr, ho, hg⟩ := run_make_full (P := P) (w := w) w.heap.size t e i0 z dk.sz ht hi0 hz0 hsz kl kc m (by rw [hby]; exact hb.1) (by simp only [maxLen]; omega) (Nat.le_refl _)
  have hzs : z.cells.size = dk.sz := by have := dk.len (dk.own (hz w)); simpa using this
  refine opv (v := .slice (some ⟨w.heap.size, 0, none⟩) m m) (w' := w') rfl (by simp [execOp, hx, hy, hr]) (h _ w' [w.heap.size] ⟨[], (madeCells z.cells (m * dk.sz)).toList, ?_, by simp [Value.ownBlock], ?_⟩ (by simp) (fun k hk => by rw [List.mem_singleton.1 hk]; exact Nat.le_refl _) ⟨hg.os, hg.tape, hg.output, hg.size, fun k hk _ => hg.block k hk (by simp)⟩)
  · obtain ⟨h1, h2⟩ := ho
    rw [List.length_replicate]
    refine ⟨h1, ?_⟩
    rcases h2 with h2 | ⟨g, cap, cur, hv, hg', r⟩
    · exact .inl h2
    · exact .inr ⟨g, cap, cur, hv, Nat.zero_le _, r⟩
  · rw [← hzs, made_flat z.cells (by rw [hzs]; exact dk.pos)]
    exact els_made (hz w') m
end
end Go.Eng

namespace Go.Proofs.YtanfhikfeabidaaGreatDoor
open Go Go.Eng
set_option maxRecDepth 100000
theorem ti1 : TI Tryz.prog 1 (.nilFunc) 1 8 := by unfold TI; kernel_rfl
theorem ti2 : TI Tryz.prog 2 (.int .i64 0) 1 8 := by unfold TI; kernel_rfl
theorem ti3 : TI Tryz.prog 3 (.int .i64 0) 1 8 := by unfold TI; kernel_rfl
theorem ti4 : TI Tryz.prog 4 (.bool false) 1 1 := by unfold TI; kernel_rfl
theorem ti5 : TI Tryz.prog 5 (.int .u8 0) 1 1 := by unfold TI; kernel_rfl
theorem ti9 : TI Tryz.prog 9 (.string ⟨#[]⟩) 1 16 := by unfold TI; kernel_rfl
theorem ti22 : TI Tryz.prog 22 (.slice none 0 0) 1 24 := by unfold TI; kernel_rfl
theorem ti25 : TI Tryz.prog 25 (.agg #[.int .i64 0, .int .i64 0]) 2 16 := by unfold TI; kernel_rfl
theorem ti29 : TI Tryz.prog 29 (.agg #[.int .i64 0, .string ⟨#[]⟩, .string ⟨#[]⟩, .int .i64 0]) 4 48 := by unfold TI; kernel_rfl
theorem ti30 : TI Tryz.prog 30 (.slice none 0 0) 1 24 := by unfold TI; kernel_rfl
theorem ti31 : TI Tryz.prog 31 (.slice none 0 0) 1 24 := by unfold TI; kernel_rfl
theorem ti33 : TI Tryz.prog 33 (.agg #[.slice none 0 0, .slice none 0 0]) 2 48 := by unfold TI; kernel_rfl
theorem ti35 : TI Tryz.prog 35 (.agg #[.int .i64 0, .bool false, .slice none 0 0, .int .i64 0, .slice none 0 0, .slice none 0 0]) 6 96 := by unfold TI; kernel_rfl
theorem ti42 : TI Tryz.prog 42 (.agg #[.int .i64 0, .string ⟨#[]⟩, .slice none 0 0, .int .i64 0, .int .i64 0, .int .i64 0, .int .i64 0, .int .i64 0, .int .i64 0]) 9 96 := by unfold TI; kernel_rfl
theorem ti47 : TI Tryz.prog 47 (.pointer none) 1 8 := by unfold TI; kernel_rfl
theorem ti49 : TI Tryz.prog 49 (.pointer none) 1 8 := by unfold TI; kernel_rfl
theorem ti51 : TI Tryz.prog 51 (.agg #[.int .i64 0, .int .i64 0, .int .i64 0, .int .i64 0, .int .i64 0]) 5 40 := by unfold TI; kernel_rfl
theorem ti52 : TI Tryz.prog 52 (.map none) 1 8 := by unfold TI; kernel_rfl
theorem ti54 : TI Tryz.prog 54 (.agg #[.map none]) 1 8 := by unfold TI; kernel_rfl
theorem ti56 : TI Tryz.prog 56 (.agg #[.map none]) 1 8 := by unfold TI; kernel_rfl
theorem ti57 : TI Tryz.prog 57 (.agg #[.map none]) 1 8 := by unfold TI; kernel_rfl
theorem ti58 : TI Tryz.prog 58 (.slice none 0 0) 1 24 := by unfold TI; kernel_rfl
theorem ti60 : TI Tryz.prog 60 (.agg #[.pointer none, .int .i64 0, .int .i64 0, .int .i64 0, .int .i64 0, .int .i64 0, .int .i64 0, .int .i64 0, .map none, .map none, .slice none 0 0, .int .i64 0, .int .i64 0, .int .i64 0, .int .i64 0, .nilFunc]) 16 144 := by unfold TI; kernel_rfl
theorem ti71 : TI Tryz.prog 71 (.agg #[.int .u8 0, .int .u8 0, .int .u8 0, .int .u8 0, .int .u8 0, .int .u8 0, .int .u8 0, .int .u8 0, .int .u8 0, .int .u8 0, .int .u8 0, .int .u8 0, .int .u8 0, .int .u8 0, .int .u8 0, .int .u8 0, .int .u8 0, .int .u8 0, .int .u8 0, .int .u8 0, .int .u8 0, .int .u8 0, .int .u8 0, .int .u8 0, .int .u8 0, .int .u8 0, .int .u8 0, .int .u8 0, .int .u8 0, .int .u8 0, .int .u8 0, .int .u8 0, .int .u8 0, .int .u8 0, .int .u8 0, .int .u8 0, .int .u8 0, .int .u8 0, .int .u8 0, .int .u8 0, .int .u8 0, .int .u8 0, .int .u8 0, .int .u8 0, .int .u8 0, .int .u8 0, .int .u8 0, .int .u8 0, .int .u8 0, .int .u8 0, .int .u8 0, .int .u8 0, .int .u8 0, .int .u8 0, .int .u8 0, .int .u8 0, .int .u8 0, .int .u8 0, .int .u8 0, .int .u8 0, .int .u8 0, .int .u8 0, .int .u8 0, .int .u8 0]) 64 64 := by unfold TI; kernel_rfl
theorem ti73 : TI Tryz.prog 73 (.agg #[.int .i64 0, .int .i64 0, .int .i64 0]) 3 24 := by unfold TI; kernel_rfl
theorem ti77 : TI Tryz.prog 77 (.slice none 0 0) 1 24 := by unfold TI; kernel_rfl
theorem ti78 : TI Tryz.prog 78 (.slice none 0 0) 1 24 := by unfold TI; kernel_rfl
theorem ti80 : TI Tryz.prog 80 (.agg #[.pointer none, .int .i64 0, .int .i64 0, .int .i64 0, .int .i64 0, .int .i64 0, .int .i64 0, .int .i64 0, .int .i64 0, .slice none 0 0, .slice none 0 0, .slice none 0 0]) 12 144 := by unfold TI; kernel_rfl
theorem ti86 : TI Tryz.prog 86 (.slice none 0 0) 1 24 := by unfold TI; kernel_rfl
theorem ti89 : TI Tryz.prog 89 (.agg #[.string ⟨#[]⟩, .int .i64 0, .slice none 0 0]) 3 48 := by unfold TI; kernel_rfl
theorem ti91 : TI Tryz.prog 91 (.agg #[.int .i64 0, .string ⟨#[]⟩, .int .i64 0, .slice none 0 0]) 4 56 := by unfold TI; kernel_rfl
theorem ti94 : TI Tryz.prog 94 (.nilFunc) 1 8 := by unfold TI; kernel_rfl
theorem ti96 : TI Tryz.prog 96 (.map none) 1 8 := by unfold TI; kernel_rfl
theorem ti98 : TI Tryz.prog 98 (.agg #[.slice none 0 0, .slice none 0 0, .map none]) 3 56 := by unfold TI; kernel_rfl
theorem ti100 : TI Tryz.prog 100 (.agg #[.int .i64 0, .slice none 0 0]) 2 32 := by unfold TI; kernel_rfl
theorem ti103 : TI Tryz.prog 103 (.agg #[.int .i64 0, .int .i64 0]) 2 16 := by unfold TI; kernel_rfl
theorem ti108 : TI Tryz.prog 108 (.agg #[.bool false, .int .i64 0, .int .i64 0, .int .i64 0]) 4 32 := by unfold TI; kernel_rfl
theorem ti111 : TI Tryz.prog 111 (.agg #[.bool false, .slice none 0 0]) 2 32 := by unfold TI; kernel_rfl
theorem ti115 : TI Tryz.prog 115 (.agg #[.int .i64 0, .bool false]) 2 16 := by unfold TI; kernel_rfl
theorem ti121 : TI Tryz.prog 121 (.int .u64 0) 1 8 := by unfold TI; kernel_rfl
theorem ti123 : TI Tryz.prog 123 (.agg #[.int .u64 0]) 1 8 := by unfold TI; kernel_rfl
theorem ti126 : TI Tryz.prog 126 (.agg #[.int .u64 0, .int .u32 0]) 2 16 := by unfold TI; kernel_rfl
theorem ti129 : TI Tryz.prog 129 (.agg #[.bool false, .string ⟨#[]⟩, .int .i64 0, .slice none 0 0]) 4 56 := by unfold TI; kernel_rfl
theorem ti135 : TI Tryz.prog 135 (.agg #[.int .i64 0]) 1 8 := by unfold TI; kernel_rfl
theorem ti142 : TI Tryz.prog 142 (.agg #[.nilFunc, .nilFunc, .nilFunc, .nilFunc, .nilFunc, .nilFunc, .nilFunc, .nilFunc, .nilFunc]) 9 72 := by unfold TI; kernel_rfl
theorem ti152 : TI Tryz.prog 152 (.agg #[.slice none 0 0]) 1 24 := by unfold TI; kernel_rfl
theorem ti180 : TI Tryz.prog 180 (.agg #[]) 0 0 := by unfold TI; kernel_rfl
theorem ti201 : TI Tryz.prog 201 (.pointer none) 1 8 := by unfold TI; kernel_rfl
theorem ti203 : TI Tryz.prog 203 (.agg #[.pointer none, .slice none 0 0]) 2 32 := by unfold TI; kernel_rfl
theorem ti258 : TI Tryz.prog 258 (.agg #[.int .i64 0, .int .i64 0]) 2 16 := by unfold TI; kernel_rfl
theorem pl25 : PL Tryz.prog 25 [(0, 1), (1, 1)] := by unfold PL; kernel_rfl
theorem pl29 : PL Tryz.prog 29 [(0, 1), (1, 1), (2, 1), (3, 1)] := by unfold PL; kernel_rfl
theorem pl33 : PL Tryz.prog 33 [(0, 1), (1, 1)] := by unfold PL; kernel_rfl
theorem pl42 : PL Tryz.prog 42 [(0, 1), (1, 1), (2, 1), (3, 1), (4, 5)] := by unfold PL; kernel_rfl
theorem pl51 : PL Tryz.prog 51 [(0, 1), (1, 1), (2, 1), (3, 1), (4, 1)] := by unfold PL; kernel_rfl
theorem pl60 : PL Tryz.prog 60 [(0, 1), (1, 2), (3, 5), (8, 1), (9, 1), (10, 1), (11, 1), (12, 1), (13, 1), (14, 1), (15, 1)] := by unfold PL; kernel_rfl
theorem pl73 : PL Tryz.prog 73 [(0, 1), (1, 1), (2, 1)] := by unfold PL; kernel_rfl
theorem pl80 : PL Tryz.prog 80 [(0, 1), (1, 2), (3, 5), (8, 1), (9, 1), (10, 1), (11, 1)] := by unfold PL; kernel_rfl
theorem pl89 : PL Tryz.prog 89 [(0, 1), (1, 1), (2, 1)] := by unfold PL; kernel_rfl
theorem pl91 : PL Tryz.prog 91 [(0, 1), (1, 3)] := by unfold PL; kernel_rfl
theorem pl98 : PL Tryz.prog 98 [(0, 1), (1, 1), (2, 1)] := by unfold PL; kernel_rfl
theorem pl100 : PL Tryz.prog 100 [(0, 1), (1, 1)] := by unfold PL; kernel_rfl
theorem pl103 : PL Tryz.prog 103 [(0, 1), (1, 1)] := by unfold PL; kernel_rfl
theorem pl108 : PL Tryz.prog 108 [(0, 1), (1, 3)] := by unfold PL; kernel_rfl
theorem pl111 : PL Tryz.prog 111 [(0, 1), (1, 1)] := by unfold PL; kernel_rfl
theorem pl115 : PL Tryz.prog 115 [(0, 1), (1, 1)] := by unfold PL; kernel_rfl
theorem pl152 : PL Tryz.prog 152 [(0, 1)] := by unfold PL; kernel_rfl
theorem pl180 : PL Tryz.prog 180 [] := by unfold PL; kernel_rfl
theorem pl258 : PL Tryz.prog 258 [(0, 1), (1, 1)] := by unfold PL; kernel_rfl
theorem go4 : Goes Tryz.prog 4 := goes Tryz.func4 (by kernel_rfl) (by kernel_rfl)
theorem go5 : Goes Tryz.prog 5 := goes Tryz.func5 (by kernel_rfl) (by kernel_rfl)
theorem go6 : Goes Tryz.prog 6 := goes Tryz.func6 (by kernel_rfl) (by kernel_rfl)
theorem go7 : Goes Tryz.prog 7 := goes Tryz.func7 (by kernel_rfl) (by kernel_rfl)
theorem go8 : Goes Tryz.prog 8 := goes Tryz.func8 (by kernel_rfl) (by kernel_rfl)
theorem go9 : Goes Tryz.prog 9 := goes Tryz.func9 (by kernel_rfl) (by kernel_rfl)
theorem go10 : Goes Tryz.prog 10 := goes Tryz.func10 (by kernel_rfl) (by kernel_rfl)
theorem go11 : Goes Tryz.prog 11 := goes Tryz.func11 (by kernel_rfl) (by kernel_rfl)
theorem go12 : Goes Tryz.prog 12 := goes Tryz.func12 (by kernel_rfl) (by kernel_rfl)
theorem go13 : Goes Tryz.prog 13 := goes Tryz.func13 (by kernel_rfl) (by kernel_rfl)
theorem go14 : Goes Tryz.prog 14 := goes Tryz.func14 (by kernel_rfl) (by kernel_rfl)
theorem go15 : Goes Tryz.prog 15 := goes Tryz.func15 (by kernel_rfl) (by kernel_rfl)
theorem go16 : Goes Tryz.prog 16 := goes Tryz.func16 (by kernel_rfl) (by kernel_rfl)
theorem go17 : Goes Tryz.prog 17 := goes Tryz.func17 (by kernel_rfl) (by kernel_rfl)
theorem go18 : Goes Tryz.prog 18 := goes Tryz.func18 (by kernel_rfl) (by kernel_rfl)
theorem go19 : Goes Tryz.prog 19 := goes Tryz.func19 (by kernel_rfl) (by kernel_rfl)
theorem go20 : Goes Tryz.prog 20 := goes Tryz.func20 (by kernel_rfl) (by kernel_rfl)
theorem go21 : Goes Tryz.prog 21 := goes Tryz.func21 (by kernel_rfl) (by kernel_rfl)
theorem go22 : Goes Tryz.prog 22 := goes Tryz.func22 (by kernel_rfl) (by kernel_rfl)
theorem go23 : Goes Tryz.prog 23 := goes Tryz.func23 (by kernel_rfl) (by kernel_rfl)
theorem go24 : Goes Tryz.prog 24 := goes Tryz.func24 (by kernel_rfl) (by kernel_rfl)
theorem go25 : Goes Tryz.prog 25 := goes Tryz.func25 (by kernel_rfl) (by kernel_rfl)
theorem go26 : Goes Tryz.prog 26 := goes Tryz.func26 (by kernel_rfl) (by kernel_rfl)
theorem go27 : Goes Tryz.prog 27 := goes Tryz.func27 (by kernel_rfl) (by kernel_rfl)
theorem go28 : Goes Tryz.prog 28 := goes Tryz.func28 (by kernel_rfl) (by kernel_rfl)
theorem go29 : Goes Tryz.prog 29 := goes Tryz.func29 (by kernel_rfl) (by kernel_rfl)
theorem go30 : Goes Tryz.prog 30 := goes Tryz.func30 (by kernel_rfl) (by kernel_rfl)
theorem go32 : Goes Tryz.prog 32 := goes Tryz.func32 (by kernel_rfl) (by kernel_rfl)
theorem go33 : Goes Tryz.prog 33 := goes Tryz.func33 (by kernel_rfl) (by kernel_rfl)
theorem go34 : Goes Tryz.prog 34 := goes Tryz.func34 (by kernel_rfl) (by kernel_rfl)
theorem go35 : Goes Tryz.prog 35 := goes Tryz.func35 (by kernel_rfl) (by kernel_rfl)
theorem go36 : Goes Tryz.prog 36 := goes Tryz.func36 (by kernel_rfl) (by kernel_rfl)
theorem go37 : Goes Tryz.prog 37 := goes Tryz.func37 (by kernel_rfl) (by kernel_rfl)
theorem go38 : Goes Tryz.prog 38 := goes Tryz.func38 (by kernel_rfl) (by kernel_rfl)
theorem go39 : Goes Tryz.prog 39 := goes Tryz.func39 (by kernel_rfl) (by kernel_rfl)
theorem go40 : Goes Tryz.prog 40 := goes Tryz.func40 (by kernel_rfl) (by kernel_rfl)
theorem go41 : Goes Tryz.prog 41 := goes Tryz.func41 (by kernel_rfl) (by kernel_rfl)
theorem go42 : Goes Tryz.prog 42 := goes Tryz.func42 (by kernel_rfl) (by kernel_rfl)
theorem go47 : Goes Tryz.prog 47 := goes Tryz.func47 (by kernel_rfl) (by kernel_rfl)
theorem go48 : Goes Tryz.prog 48 := goes Tryz.func48 (by kernel_rfl) (by kernel_rfl)
theorem go51 : Goes Tryz.prog 51 := goes Tryz.func51 (by kernel_rfl) (by kernel_rfl)
theorem go53 : Goes Tryz.prog 53 := goes Tryz.func53 (by kernel_rfl) (by kernel_rfl)
theorem go54 : Goes Tryz.prog 54 := goes Tryz.func54 (by kernel_rfl) (by kernel_rfl)
theorem go56 : Goes Tryz.prog 56 := goes Tryz.func56 (by kernel_rfl) (by kernel_rfl)
theorem go58 : Goes Tryz.prog 58 := goes Tryz.func58 (by kernel_rfl) (by kernel_rfl)
theorem go61 : Goes Tryz.prog 61 := goes Tryz.func61 (by kernel_rfl) (by kernel_rfl)
theorem go62 : Goes Tryz.prog 62 := goes Tryz.func62 (by kernel_rfl) (by kernel_rfl)
theorem go63 : Goes Tryz.prog 63 := goes Tryz.func63 (by kernel_rfl) (by kernel_rfl)
theorem go64 : Goes Tryz.prog 64 := goes Tryz.func64 (by kernel_rfl) (by kernel_rfl)
theorem go65 : Goes Tryz.prog 65 := goes Tryz.func65 (by kernel_rfl) (by kernel_rfl)
theorem go66 : Goes Tryz.prog 66 := goes Tryz.func66 (by kernel_rfl) (by kernel_rfl)
theorem go67 : Goes Tryz.prog 67 := goes Tryz.func67 (by kernel_rfl) (by kernel_rfl)
theorem go77 : Goes Tryz.prog 77 := goes Tryz.func77 (by kernel_rfl) (by kernel_rfl)
theorem go88 : Goes Tryz.prog 88 := goes Tryz.func88 (by kernel_rfl) (by kernel_rfl)
theorem go89 : Goes Tryz.prog 89 := goes Tryz.func89 (by kernel_rfl) (by kernel_rfl)
theorem go91 : Goes Tryz.prog 91 := goes Tryz.func91 (by kernel_rfl) (by kernel_rfl)
theorem go92 : Goes Tryz.prog 92 := goes Tryz.func92 (by kernel_rfl) (by kernel_rfl)
theorem go94 : Goes Tryz.prog 94 := goes Tryz.func94 (by kernel_rfl) (by kernel_rfl)
theorem go96 : Goes Tryz.prog 96 := goes Tryz.func96 (by kernel_rfl) (by kernel_rfl)
theorem go97 : Goes Tryz.prog 97 := goes Tryz.func97 (by kernel_rfl) (by kernel_rfl)
theorem go99 : Goes Tryz.prog 99 := goes Tryz.func99 (by kernel_rfl) (by kernel_rfl)
theorem go100 : Goes Tryz.prog 100 := goes Tryz.func100 (by kernel_rfl) (by kernel_rfl)
theorem go101 : Goes Tryz.prog 101 := goes Tryz.func101 (by kernel_rfl) (by kernel_rfl)
theorem go108 : Goes Tryz.prog 108 := goes Tryz.func108 (by kernel_rfl) (by kernel_rfl)
theorem go110 : Goes Tryz.prog 110 := goes Tryz.func110 (by kernel_rfl) (by kernel_rfl)
theorem go112 : Goes Tryz.prog 112 := goes Tryz.func112 (by kernel_rfl) (by kernel_rfl)
theorem go121 : Goes Tryz.prog 121 := goes Tryz.func121 (by kernel_rfl) (by kernel_rfl)
theorem go122 : Goes Tryz.prog 122 := goes Tryz.func122 (by kernel_rfl) (by kernel_rfl)
theorem go123 : Goes Tryz.prog 123 := goes Tryz.func123 (by kernel_rfl) (by kernel_rfl)
theorem go124 : Goes Tryz.prog 124 := goes Tryz.func124 (by kernel_rfl) (by kernel_rfl)
theorem go125 : Goes Tryz.prog 125 := goes Tryz.func125 (by kernel_rfl) (by kernel_rfl)
theorem go126 : Goes Tryz.prog 126 := goes Tryz.func126 (by kernel_rfl) (by kernel_rfl)
theorem go127 : Goes Tryz.prog 127 := goes Tryz.func127 (by kernel_rfl) (by kernel_rfl)
theorem go135 : Goes Tryz.prog 135 := goes Tryz.func135 (by kernel_rfl) (by kernel_rfl)
theorem go136 : Goes Tryz.prog 136 := goes Tryz.func136 (by kernel_rfl) (by kernel_rfl)
theorem go137 : Goes Tryz.prog 137 := goes Tryz.func137 (by kernel_rfl) (by kernel_rfl)
theorem go139 : Goes Tryz.prog 139 := goes Tryz.func139 (by kernel_rfl) (by kernel_rfl)
theorem go149 : Goes Tryz.prog 149 := goes Tryz.func149 (by kernel_rfl) (by kernel_rfl)
theorem go150 : Goes Tryz.prog 150 := goes Tryz.func150 (by kernel_rfl) (by kernel_rfl)
theorem go151 : Goes Tryz.prog 151 := goes Tryz.func151 (by kernel_rfl) (by kernel_rfl)
theorem go159 : Goes Tryz.prog 159 := goes Tryz.func159 (by kernel_rfl) (by kernel_rfl)
theorem go160 : Goes Tryz.prog 160 := goes Tryz.func160 (by kernel_rfl) (by kernel_rfl)
theorem go161 : Goes Tryz.prog 161 := goes Tryz.func161 (by kernel_rfl) (by kernel_rfl)
theorem go167 : Goes Tryz.prog 167 := goes Tryz.func167 (by kernel_rfl) (by kernel_rfl)
theorem go168 : Goes Tryz.prog 168 := goes Tryz.func168 (by kernel_rfl) (by kernel_rfl)
theorem go173 : Goes Tryz.prog 173 := goes Tryz.func173 (by kernel_rfl) (by kernel_rfl)
theorem go174 : Goes Tryz.prog 174 := goes Tryz.func174 (by kernel_rfl) (by kernel_rfl)
theorem mixed : Tryz.prog.follows .mixedOrders = true := by kernel_rfl
end Go.Proofs.YtanfhikfeabidaaGreatDoor

namespace Go.Proofs.YtanfhikfeabidaaGreatDoor
open Go Go.Eng
set_option maxRecDepth 100000
set_option linter.unusedVariables false
abbrev u8 : Kd Int := Kd.int .u8
abbrev i64 : Kd Int := Kd.int .i64
/-- A row of the call's own that is new since w. -/
def New {α : Type} (d : Kd α) (e : TypeId) (w w' : World) (v : Value) (xs : List α) : Prop := ∃ F, d.W e w' F v xs ∧ F.Nodup ∧ ∀ k, k ∈ F → w.heap.size ≤ k
end Go.Proofs.YtanfhikfeabidaaGreatDoor

namespace Go.Proofs.YtanfhikfeabidaaGreatDoor
open Go Go.Eng
set_option maxRecDepth 100000
set_option linter.unusedVariables false
/-- The least i that p likes, or -1. -/
def fI : Option Nat → Int
  | some i => (i : Int)
  | none => -1
def firstI (p : Nat → Bool) (n : Nat) : Int := fI ((List.range n).find? p)
def isFree (xs : List Int) (a : Int) (i : Nat) : Bool := decide (xs.getD i 0 = 0) && decide (¬ (i : Int) = a)
def fseg (xs : List Int) (a : Int) : Int := firstI (isFree xs a) xs.length
theorem getD_eq {xs : List Int} {k : Nat} (hk : k < xs.length) : xs.getD k 0 = xs[k] := by simp [List.getD, hk]
/-! ### The program's way: the list of those that fit, then the best -/
abbrev kseg : Kd (Int × Int) := Kd.flat 2 (fun x => [.int .i64 x.1, .int .i64 x.2]) (by decide) (fun _ => rfl) (fun x u hu => by simp at hu; rcases hu with rfl | rfl <;> rfl)
theorem flat_at {α : Type} {sz : Nat} {enc : α → List Value} {hp : 0 < sz} {hl : ∀ x, (enc x).length = sz} {h1 : ∀ x u, u ∈ enc x → u.oneCell' = true} {w : World} {F : List Nat} {x : α} {ad : Addr} {cs : List Value} (h : Plc (Kd.flat sz enc hp hl h1) w F x ad cs) : ∀ m u, (enc x)[m]? = some u → w.cell? (ad.add m) = some u := by
  obtain ⟨Fi, _, ⟨rfl, rfl⟩, hc⟩ := h
  exact hc
/-- The first of the least. -/
def bst : List (Int × Int) → Int × Int
  | [] => (0, 0)
  | x :: r => r.foldl (fun o y => if y.2 < o.2 then y else o) x
theorem bst_snoc {xs : List (Int × Int)} {y : Int × Int} (h : xs ≠ []) : bst (xs ++ [y]) = if y.2 < (bst xs).2 then y else bst xs := by
  cases xs with
  | nil => exact absurd rfl h
  | cons x r =>
    simp only [bst, List.cons_append, List.foldl_append, List.foldl_cons, List.foldl_nil]
    rfl
theorem chosen1 {w : World} {x y : Int × Int} : Ret Tryz.prog 174 #[.agg #[.int .i64 x.1, .int .i64 x.2], .agg #[.int .i64 y.1, .int .i64 y.2]] w (fun r w' => r = .bool (decide (x.2 < y.2)) ∧ Ch [] w w') := by
  refine enter Tryz.func174 rfl Tryz.ntmps174 (by rfl) (by rfl) ?_
  refine sq (rg (bx rfl ?_))
  intro ga wga ega sga bga cga
  refine bx rfl ?_
  intro gb wgb egb sgb bgb cgb
  refine r (sa rfl) (re (sq (rg (r (fa Tryz.underlying258 rfl ti2 rfl rfl) ?_))))
  replace bga := cgb.b0 bga
  refine r (ldb Tryz.underlying2 rfl rfl bga rfl) (r (fa Tryz.underlying258 rfl ti2 rfl rfl) (r (ldb Tryz.underlying2 rfl rfl bgb rfl) (r (bi rfl rfl rfl) (r (sa rfl) (re (rt ?_))))))
  exact fin1 (v := .bool (decide (x.2 < y.2))) Tryz.results174 rfl ⟨rfl, cga.t cgb⟩
theorem best {w : World} {F : List Nat} {v : Value} {xs : List (Int × Int)} (hx : kseg.R w F v xs) (lx : xs.length ≤ 1000000000) :
    Ret Tryz.prog 173 #[v, .func (.func 174) #[] #[]] w (fun r w' => r = .tuple #[.agg #[.int .i64 (bst xs).1, .int .i64 (bst xs).2], .bool (decide (0 < xs.length))] ∧ Ch [] w w') := by
  refine enter Tryz.func173 rfl Tryz.ntmps173 (by rfl) (by rfl) ?_
  refine sq (rg (al ti258 ?_))
  intro gr wgr egr sgr bgr cgr
  refine r (sa rfl) (re (sq (rg (al ti258 ?_))))
  intro go wgo ego sgo bgo cgo
  refine re (sq (sq (rg (r (mv rfl) (r (ln Tryz.underlying256 rfl (hx.t (cgr.t cgo))) (r (mv rfl) (re (bl ?_))))))))
  replace bgr := cgo.b0 bgr
  have h64 : gr ≠ go := by omega
  refine lp (α := Nat) (fun k ρ w' => ρ 0 = v ∧ ρ 1 = .func (.func 174) #[] #[] ∧ ρ 4 = .pointer (some ⟨gr, 0, none⟩) ∧ ρ 6 = .pointer (some ⟨go, 0, none⟩) ∧ ρ 9 = v ∧ ρ 10 = .int .i64 (xs.length : Int) ∧ ρ 11 = .int .i64 (k : Int) ∧ k ≤ xs.length ∧ B w' gr 258 [.int .i64 0, .int .i64 0] ∧ B w' go 258 [.int .i64 (bst (xs.take k)).1, .int .i64 (bst (xs.take k)).2] ∧ Ch [] w w' ∧ go < w'.heap.size) (fun k => xs.length - k) 0 ?_ ?_
  · exact ⟨rfl, rfl, rfl, rfl, rfl, rfl, rfl, ⟨by omega, bgr, bgo, cgr.t cgo, bgo.lt⟩⟩
  rintro k ρ w' ⟨y0, y1, y4, y6, y9, y10, y11, hk, br, bo, hc, hs⟩
  refine sq (rg (r (bi y11 y10 rfl) (re (sq ?_))))
  refine cp rfl (fun hlt => ?_) (fun hlt => ?_)
  · have hlt' : k < xs.length := by omega
    refine sk (sq (bl (sq (rg (r (mv y11) ?_)))))
    obtain ⟨c14, ad14, k14, e14, p14⟩ := (hx.t hc).place k (by omega)
    refine r (ix Tryz.underlying256 ti258 (y9.trans e14) y11 (by omega)) ?_
    have hp := flat_at p14
    refine r (la [.int .i64 xs[k].1, .int .i64 xs[k].2] Tryz.underlying258 rfl ti258 rfl rfl hp) (al ti258 ?_)
    intro g8 wg8 eg8 sg8 bg8 cg8
    refine r (sa rfl) ?_
    replace br := cg8.b0 br
    replace bo := cg8.b0 bo
    refine st ti258 rfl rfl bg8 rfl (Nat.le_of_ble_eq_true rfl) (one_all rfl) ?_
    intro ws ss bs cs
    refine re (sq (rg (r (mv rfl) (r (bi rfl rfl rfl) (r (mv rfl) ?_)))))
    replace bs : B ws g8 258 [.int .i64 xs[k].1, .int .i64 xs[k].2] := bs
    replace br := cs.b br (by simp; omega)
    replace bo := cs.b bo (by simp; omega)
    have hc2 : Ch [] w ws := (hc.t cg8).trans cs (fun j hj hl => by have := hc.size; simp at hj; omega)
    refine sp 18 rfl (fun h0 => ?_) (fun h0 => ?_)
    · refine gn rfl rfl rfl (gn rfl rfl rfl (gn rfl rfl rfl (gn rfl rfl rfl (r (pk rfl rfl) (re (ct rfl (rg ?_)))))))
      refine r (lab _ Tryz.underlying258 rfl ti258 rfl bs rfl rfl) (st ti258 y6 rfl bo rfl (Nat.le_of_ble_eq_true rfl) (one_all rfl) ?_)
      intro wu su bu cu
      refine re (be (rg ?_))
      replace br := cu.b br (by simp; omega)
      have hc3 : Ch [] w wu := hc2.trans cu (fun j hj hl => by simp at hj; omega)
      refine r (ad ((k : Int) + 1) y11 rfl (by omega)) (r (mv rfl) (re ?_))
      have hv : bst (xs.take (k + 1)) = xs[k] := by
        obtain rfl : k = 0 := by omega
        rw [List.take_succ_eq_append_getElem hlt']; simp [bst]
      refine ag (k + 1) ⟨y0, y1, y4, y6, y9, y10, rfl, by omega, br, by rw [hv]; exact bu, hc3, bu.lt⟩ (by omega)
    · refine gy rfl rfl rfl (r (mv y1) (gy rfl rfl rfl (r (lab [.int .i64 xs[k].1, .int .i64 xs[k].2] Tryz.underlying258 rfl ti258 rfl bs rfl rfl) (gy rfl rfl rfl (r (lab [.int .i64 (bst (xs.take k)).1, .int .i64 (bst (xs.take k)).2] Tryz.underlying258 rfl ti258 y6 bo rfl rfl) (gy rfl rfl rfl (clv rfl go174 (ac rfl (ac rfl an)) (chosen1 (x := xs[k]) (y := bst (xs.take k))) ?_)))))))
      rintro r wc ⟨rfl, cc⟩
      refine r (pk rfl rfl) (re ?_)
      replace bs := cc.b0 bs
      replace bo := cc.b0 bo
      replace br := cc.b0 br
      have hc4 := hc2.t cc
      have hne : xs.take k ≠ [] := by 
        intro e; have h := List.length_take (i := k) (l := xs)
        rw [e, List.length_nil] at h; omega
      have hb := bst_snoc (xs := xs.take k) (y := xs[k]) hne
      rw [← List.take_succ_eq_append_getElem hlt'] at hb
      refine cp rfl (fun h1 => ?_) (fun h1 => ?_)
      · refine rg (r (lab _ Tryz.underlying258 rfl ti258 rfl bs rfl rfl) (st ti258 y6 rfl bo rfl (Nat.le_of_ble_eq_true rfl) (one_all rfl) ?_))
        intro wu su bu cu
        refine re (be (rg ?_))
        replace br := cu.b br (by simp; omega)
        have hc3 : Ch [] w wu := hc4.trans cu (fun j hj hl => by simp at hj; omega)
        refine r (ad ((k : Int) + 1) y11 rfl (by omega)) (r (mv rfl) (re ?_))
        have hv : bst (xs.take (k + 1)) = xs[k] := by rw [hb, if_pos h1]
        refine ag (k + 1) ⟨y0, y1, y4, y6, y9, y10, rfl, by omega, br, by rw [hv]; exact bu, hc3, bu.lt⟩ (by omega)
      · refine sk (be (rg (r (ad ((k : Int) + 1) y11 rfl (by omega)) (r (mv rfl) (re ?_)))))
        rw [if_neg h1] at hb
        refine ag (k + 1) ⟨y0, y1, y4, y6, y9, y10, rfl, by omega, br, by rw [hb]; exact bo, hc4, bo.lt⟩ (by omega)
  · obtain rfl : k = xs.length := by omega
    rw [List.take_length] at bo
    refine ex rfl (sq (rg (r (lab _ Tryz.underlying258 rfl ti258 y6 bo rfl rfl) (r (mv y0) (r (ln Tryz.underlying256 rfl (hx.t hc)) (r (bi rfl rfl rfl) (st ti258 y4 rfl br rfl (Nat.le_of_ble_eq_true rfl) (one_all rfl) ?_)))))))
    intro wu su bu cu
    refine r (sa rfl) (re (rt ?_))
    replace br := bu
    have hcu : Ch [] w wu := hc.trans cu (fun j hj hl => by simp at hj; omega)
    exact finct (v' := .bool (decide ((0 : Int) < (xs.length : Int)))) Tryz.results173 Tryz.underlying258 rfl ti258 y4 br rfl rfl ⟨by rw [show (decide ((0 : Int) < (xs.length : Int))) = decide (0 < xs.length) from by simp]; rfl, hcu⟩
/-- Those that fit, of the first k. -/
def segs (p : Int → Bool) (a : Int) (xs : List Int) (k : Nat) : List (Int × Int) := ((List.range k).filter (fun i : Nat => decide (¬ (i : Int) = a) && p (xs.getD i 0))).map (fun i : Nat => ((i : Int), xs.getD i 0))
theorem segs_succ {p : Int → Bool} {a : Int} {xs : List Int} {k : Nat} (hk : k < xs.length) : segs p a xs (k + 1) = segs p a xs k ++ (if (decide (¬ (k : Int) = a) && p xs[k]) = true then [((k : Int), xs[k])] else []) := by
  simp only [segs, List.range_succ, List.filter_append, List.map_append, List.filter_cons, List.filter_nil, getD_eq hk]
  have := getD_eq hk
  split <;> simp only [List.map_cons, List.map_nil, this]
theorem segs_len (p : Int → Bool) (a : Int) (xs : List Int) (k : Nat) : (segs p a xs k).length ≤ k := by
  have := List.length_filter_le (fun i : Nat => decide (¬ (i : Int) = a) && p (xs.getD i 0)) (List.range k)
  simpa [segs] using this
/-- The least's number, or -1. -/
def numb (l : List (Int × Int)) : Int := if 0 < l.length then (bst l).1 else -1
theorem chosen {w : World} {F : List Nat} {v : Value} {xs : List Int} {a : Int} {fid : FuncId} {cap : List Value} {p : Int → Bool} (hx : i64.R w F v xs) (lx : xs.length ≤ 1000000000)
    (hg : Goes Tryz.prog fid) (hfit : ∀ c w', Ch [] w w' → Ret Tryz.prog fid ([Value.int .i64 c] ++ cap).toArray w' (fun r w2 => r = .bool (p c) ∧ Ch [] w' w2)) :
    Ret Tryz.prog 161 #[v, .int .i64 a, .func (.func fid) #[] cap.toArray] w (fun r w' => r = .int .i64 (numb (segs p a xs xs.length)) ∧ Ch [] w w') := by
  refine enter Tryz.func161 rfl Tryz.ntmps161 (by rfl) (by rfl) ?_
  refine sq (rg (r (sa rfl) (re (sq (rg (r (sa rfl) (re (sq (sq (rg (r (mv rfl) (r (ln Tryz.underlying86 rfl (hx)) (r (mv rfl) (re (bl ?_)))))))))))))))
  refine lp (α := Nat × List Nat × Value) (fun (k, G, L) ρ w' => ρ 12 = v ∧ ρ 1 = .int .i64 a ∧ ρ 2 = .func (.func fid) #[] cap.toArray ∧ ρ 7 = L ∧ ρ 13 = .int .i64 (xs.length : Int) ∧ ρ 14 = .int .i64 (k : Int) ∧ k ≤ xs.length ∧ kseg.W 258 w' G L (segs p a xs k) ∧ G.Nodup ∧ (∀ j, j ∈ G → w.heap.size ≤ j) ∧ Ch [] w w') (fun (k, G, L) => xs.length - k) (0, [], .slice none 0 0) ?_ ?_
  · exact ⟨rfl, rfl, rfl, rfl, rfl, rfl, ⟨by omega, Kd.nil_W _ _ _, by simp, by simp, Ch.refl _ _⟩⟩
  rintro ⟨k, G, L⟩ ρ w' ⟨y12, y1, y2, y7, y13, y14, hk, hW, hn, hf, hc⟩
  refine sq (rg (r (bi y14 y13 rfl) (re (sq ?_))))
  refine cp rfl (fun hlt => ?_) (fun hlt => ?_)
  · have hlt' : k < xs.length := by omega
    have hs := segs_succ (p := p) (a := a) hlt'
    have hl := segs_len p a xs k
    refine sk (sq (bl (sq (rg (r (mv y14) ?_)))))
    obtain ⟨c17, ad17, k17, e17, p17⟩ := (hx.t hc).place k (by omega)
    refine r (ix Tryz.underlying86 ti2 (y12.trans e17) y14 (by omega)) (r (ld Tryz.underlying2 rfl rfl p17.cell) (r (sa rfl) (r (sa rfl) (re (sq (rg (r (mv rfl) (r (mv y1) (r (bi rfl rfl rfl) (r (mv rfl) ?_))))))))))
    refine spn 22 rfl (fun h0 => ?_) (fun h0 => ?_)
    · refine gy rfl rfl rfl (r (mv y2) (gy rfl rfl rfl (r (mv rfl) (gy rfl rfl rfl (clv rfl hg (ac rfl an) (hfit xs[k] _ hc) ?_)))))
      rintro r wc ⟨rfl, cc⟩
      refine r (pk rfl rfl) (re ?_)
      refine cd rfl (fun h1 => ?_) (fun h1 => ?_)
      · rw [if_pos (by rw [decide_eq_true h0, h1]; rfl)] at hs
        refine rg (r (mv y7) (r (mv rfl) (r (mv rfl) (r (bd (r := _) ti258 pl258 (pc rfl (cel1 rfl) (pc rfl (cel1 rfl) pn)) rfl) (ap1 Tryz.underlying256 ti258 rfl (fun _ => rfl) rfl (hW.t cc) (show kseg.O _ [] ((k : Int), xs[k]) _ from ⟨rfl, rfl⟩) (by simpa using hn) (by omega) rfl ?_)))))
        intro _ vs ws Fs As
        refine r (sa rfl) (re (be (rg ?_)))
        refine r (ad ((k : Int) + 1) y14 rfl (by omega)) (r (mv rfl) (re ?_))
        refine ag (k + 1, Fs, vs) ⟨y12, y1, y2, rfl, y13, rfl, by omega, hs ▸ As.W, As.nd, fun j hj => (As.sub j hj).elim (hf j) (fun h => h.elim (fun h => by cases h) (fun h => Nat.le_trans (hc.t cc).size h)), (hc.t cc).trans As.ch (fun j hj hlt => absurd (hf j (W_own hW j hj)) (by omega))⟩ (by dsimp only; omega)
      · rw [if_neg (by rw [h1]; simp), List.append_nil] at hs
        refine sk (be (rg ?_))
        refine r (ad ((k : Int) + 1) y14 rfl (by omega)) (r (mv rfl) (re ?_))
        refine ag (k + 1, G, L) ⟨y12, y1, y2, y7, y13, rfl, by omega, hs ▸ hW.t cc, hn, hf, hc.t cc⟩ (by dsimp only; omega)
    · refine gn rfl rfl rfl (gn rfl rfl rfl (gn rfl rfl rfl (r (pk rfl rfl) (re (cf rfl (sk (be (rg ?_))))))))
      rw [if_neg (by simp [h0]), List.append_nil] at hs
      refine r (ad ((k : Int) + 1) y14 rfl (by omega)) (r (mv rfl) (re ?_))
      refine ag (k + 1, G, L) ⟨y12, y1, y2, y7, y13, rfl, by omega, hs ▸ hW, hn, hf, hc⟩ (by dsimp only; omega)
  · obtain rfl : k = xs.length := by omega
    have hl := segs_len p a xs xs.length
    refine ex rfl (sq (rg (r (mv y7) (cl go173 (best hW.R (by omega)) (ac rfl (ac rfl an)) ?_))))
    rintro r wb ⟨rfl, cb⟩
    refine r (mv rfl) (r (xt rfl rfl) (r (xt rfl rfl) (al ti258 ?_)))
    intro go wgo ego sgo bgo cgo
    refine st ti258 rfl rfl bgo rfl (Nat.le_of_ble_eq_true rfl) (one_all rfl) ?_
    intro ws ss bs cs
    refine r (sa rfl) (re (sq (sq (rg (r (mv rfl) (r (nt rfl) (re ?_)))))))
    have hcs : Ch [] w ws := ((hc.t cb).t cgo).trans cs (fun j hj hl => by have := (hc.t cb).size; simp at hj; omega)
    replace bs : B ws go 258 [.int .i64 (bst (segs p a xs xs.length)).1, .int .i64 (bst (segs p a xs xs.length)).2] := bs
    refine cd rfl (fun h1 => ?_) (fun h1 => ?_)
    · refine sq (rg (r (sa rfl) (re (rt ?_))))
      exact fin1 (v := .int .i64 (-1)) Tryz.results161 rfl ⟨by rw [numb, if_neg (by simpa using h1)], hcs⟩
    · refine sk (sq (rg (r (fa Tryz.underlying258 rfl ti2 rfl rfl) (r (ldb Tryz.underlying2 rfl rfl bs rfl) (r (sa rfl) (re (rt ?_)))))))
      exact fin1 (v := .int .i64 (bst (segs p a xs xs.length)).1) Tryz.results161 rfl ⟨by rw [numb, if_pos (by simpa using h1)], hcs⟩
theorem free1 {w : World} {c : Int} : Ret Tryz.prog 168 #[.int .i64 c] w (fun r w' => r = .bool (decide (c = 0)) ∧ Ch [] w w') := by
  refine enter Tryz.func168 rfl Tryz.ntmps168 (by rfl) (by rfl) ?_
  refine sq (rg (r (sa rfl) (re (sq (rg (r (mv rfl) (r (bi rfl rfl rfl) (r (sa rfl) (re (rt ?_))))))))))
  exact fin1 (v := .bool (decide (c = 0))) Tryz.results168 rfl ⟨rfl, Ch.refl _ _⟩
theorem impl_FreeSegment {w : World} {F : List Nat} {v : Value} {xs : List Int} {a : Int} (hx : i64.R w F v xs) (lx : xs.length ≤ 1000000000) :
    Ret Tryz.prog 150 #[v, .int .i64 a] w (fun r w' => r = .int .i64 (numb (segs (fun c => decide (c = 0)) a xs xs.length)) ∧ Ch [] w w') := by
  refine enter Tryz.func150 rfl Tryz.ntmps150 (by rfl) (by rfl) ?_
  refine sq (rg (r (sa rfl) (re (sq (rg (r (mv rfl) (r (mv rfl) (cl go161 (chosen (cap := []) (p := fun c => decide (c = 0)) hx lx go168 (fun c w' hw => free1)) (ac rfl (ac rfl (ac rfl an))) ?_))))))))
  rintro r wc ⟨rfl, cc⟩
  refine r (sa rfl) (re (rt ?_))
  exact fin1 (v := .int .i64 (numb (segs (fun c => decide (c = 0)) a xs xs.length))) Tryz.results150 rfl ⟨rfl, cc⟩
def inside (m : Int) (c : Int) : Bool := decide (1 ≤ c) && decide (c < m)
end Go.Proofs.YtanfhikfeabidaaGreatDoor

namespace Go.Proofs.YtanfhikfeabidaaGreatDoor
open Go Go.Eng
set_option maxRecDepth 100000
set_option linter.unusedVariables false
theorem bst_fold (r : List (Int × Int)) : ∀ x, bst (x :: r) = if r ≠ [] ∧ (bst r).2 < x.2 then bst r else x := by
  induction r with
  | nil => intro x; simp [bst]
  | cons y r ih =>
    intro x
    have h1 : bst (x :: y :: r) = bst ((if y.2 < x.2 then y else x) :: r) := rfl
    rw [h1, ih, ih y]
    by_cases e : r = []
    · subst e; simp
    · simp only [ne_eq, e, not_false_eq_true, true_and, reduceCtorEq]
      by_cases a : y.2 < x.2 <;> by_cases b : (bst r).2 < y.2 <;> by_cases c : (bst r).2 < x.2 <;> simp [a, b, c] <;> omega
theorem bst_mem (l : List (Int × Int)) (h : l ≠ []) : bst l ∈ l := by
  induction l with
  | nil => exact absurd rfl h
  | cons x r ih =>
    rw [bst_fold]
    split
    · rename_i g; exact List.mem_cons_of_mem _ (ih g.1)
    · simp
def segsD (p : Int → Bool) (a : Int) (xs : List Int) (k : Nat) : List (Int × Int) := ((List.range' k (xs.length - k)).filter (fun i : Nat => decide (¬ (i : Int) = a) && p (xs.getD i 0))).map (fun i : Nat => ((i : Int), xs.getD i 0))
theorem segsD_zero (p : Int → Bool) (a : Int) (xs : List Int) : segsD p a xs 0 = segs p a xs xs.length := by simp [segsD, segs, List.range_eq_range']
theorem segsD_end (p : Int → Bool) (a : Int) (xs : List Int) : segsD p a xs xs.length = [] := by simp [segsD]
theorem segsD_step {p : Int → Bool} {a : Int} {xs : List Int} {k : Nat} (hk : k < xs.length) : segsD p a xs k = if (decide (¬ (k : Int) = a) && p xs[k]) = true then ((k : Int), xs[k]) :: segsD p a xs (k + 1) else segsD p a xs (k + 1) := by
  have e : xs.length - k = (xs.length - (k + 1)) + 1 := by omega
  have hg := getD_eq hk
  simp only [segsD, e, List.range'_succ, List.filter_cons, hg]
  split <;> simp only [List.map_cons, hg]
theorem numb_cons (x : Int × Int) (l : List (Int × Int)) : numb (x :: l) = if l = [] ∨ x.2 ≤ (bst l).2 then x.1 else numb l := by
  simp only [numb, List.length_cons, Nat.zero_lt_succ, if_true, bst_fold]
  cases l with
  | nil => simp
  | cons y r =>
    simp only [ne_eq, reduceCtorEq, not_false_eq_true, true_and, false_or, List.length_cons, Nat.zero_lt_succ, if_true]
    by_cases a : (bst (y :: r)).2 < x.2 <;> simp [a] <;> omega
/-- Of those whose count is nought, the first. -/
theorem numb_free (a : Int) (xs : List Int) : numb (segs (fun c => decide (c = 0)) a xs xs.length) = fseg xs a := by
  rw [← segsD_zero]
  have key : ∀ m k, m + k = xs.length → numb (segsD (fun c => decide (c = 0)) a xs k) = fI ((List.range' k m).find? (isFree xs a)) ∧ (∀ q, q ∈ segsD (fun c => decide (c = 0)) a xs k → q.2 = 0) := by
    intro m
    induction m with
    | zero => intro k hk; obtain rfl : k = xs.length := by omega
              rw [segsD_end]; exact ⟨rfl, by simp⟩
    | succ m ih =>
      intro k hk
      have hlt : k < xs.length := by omega
      obtain ⟨h1, h2⟩ := ih (k + 1) (by omega)
      rw [List.range'_succ, List.find?_cons]
      by_cases hf : isFree xs a k = true
      · have hf' : decide (¬ (k : Int) = a) = true ∧ decide (xs[k] = 0) = true := by
          simp only [isFree, getD_eq hlt, Bool.and_eq_true] at hf; exact ⟨hf.2, hf.1⟩
        rw [hf, segsD_step hlt, if_pos (by rw [hf'.1, hf'.2]; rfl)]
        refine ⟨?_, fun q hq => ?_⟩
        · have hd : segsD (fun c => decide (c = 0)) a xs (k + 1) = [] ∨ xs[k] ≤ (bst (segsD (fun c => decide (c = 0)) a xs (k + 1))).2 := by
            by_cases e : segsD (fun c => decide (c = 0)) a xs (k + 1) = []
            · exact .inl e
            · right; rw [h2 _ (bst_mem _ e)]; exact Int.le_of_eq (of_decide_eq_true hf'.2)
          rw [numb_cons, if_pos hd]; rfl
        · rcases List.mem_cons.1 hq with rfl | hq
          · exact of_decide_eq_true hf'.2
          · exact h2 q hq
      · have hf2 : isFree xs a k = false := by simpa using hf
        have hn : ¬ (decide (¬ (k : Int) = a) && decide (xs[k] = 0)) = true := by
          simp only [isFree, getD_eq hlt, Bool.and_comm] at hf ⊢; exact hf
        rw [hf2, segsD_step hlt, if_neg hn]
        exact ⟨h1, h2⟩
  have := (key xs.length 0 (by omega)).1
  rw [this, fseg, firstI, List.range_eq_range']
end Go.Proofs.YtanfhikfeabidaaGreatDoor

namespace Go.Proofs.YtanfhikfeabidaaGreatDoor
open Go Go.Eng
set_option maxRecDepth 100000
set_option linter.unusedVariables false
end Go.Proofs.YtanfhikfeabidaaGreatDoor

namespace Go.Proofs.YtanfhikfeabidaaGreatDoor
open Go Go.Eng
set_option maxRecDepth 100000
set_option linter.unusedVariables false
/-- A geometry that is good. -/
abbrev geo (s b : Int) : Prop := 4 ≤ s ∧ s ≤ 64 ∧ 2 ≤ b ∧ b ≤ 16
theorem valid {w : World} {s b : Int} : Ret Tryz.prog 14 #[.agg #[.int .i64 s, .int .i64 b]] w (fun r w' => r = .bool (decide (geo s b)) ∧ Ch [] w w') := by
  refine enter Tryz.func14 rfl Tryz.ntmps14 (by rfl) (by rfl) ?_
  refine sq (rg (bx rfl ?_))
  intro g1 wg1 eg1 sg1 bg1 cg1
  have qg1 := le_new (Ch.refl [] w).size eg1
  have hcg1 : Ch [] w wg1 := (Ch.refl [] w).t cg1
  replace bg1 : B wg1 g1 25 ([.int .i64 s, .int .i64 b]) := bg1
  refine r (sa rfl) (re (sq (rg (r (fa Tryz.underlying25 rfl ti2 rfl rfl) (r (ldb Tryz.underlying2 rfl rfl bg1 rfl) (r (bi rfl rfl rfl) (r (mv rfl) ?_)))))))
  refine sp 6 rfl (fun h0 => ?_) (fun h0 => ?_)
  · refine gy rfl rfl rfl (r (fa Tryz.underlying25 rfl ti2 rfl rfl) (gy rfl rfl rfl (r (ldb Tryz.underlying2 rfl rfl bg1 rfl) (gy rfl rfl rfl (r (bi rfl rfl rfl) (r (pk rfl rfl) (r (mv rfl) ?_)))))))
    refine sp 11 rfl (fun h1 => ?_) (fun h1 => ?_)
    · refine gy rfl rfl rfl (r (fa Tryz.underlying25 rfl ti2 rfl rfl) (gy rfl rfl rfl (r (ldb Tryz.underlying2 rfl rfl bg1 rfl) (gy rfl rfl rfl (r (bi rfl rfl rfl) (r (pk rfl rfl) (r (mv rfl) ?_)))))))
      refine sp 16 rfl (fun h2 => ?_) (fun h2 => ?_)
      · refine gy rfl rfl rfl (r (fa Tryz.underlying25 rfl ti2 rfl rfl) (gy rfl rfl rfl (r (ldb Tryz.underlying2 rfl rfl bg1 rfl) (gy rfl rfl rfl (r (bi rfl rfl rfl) (r (pk rfl rfl) (r (sa rfl) (re (rt ?_)))))))))
        exact fin1 (v := .bool (decide (b ≤ 16))) Tryz.results14 rfl ⟨congrArg Value.bool (decide_eq_decide.2 (by omega)), hcg1⟩
      · refine gn rfl rfl rfl (gn rfl rfl rfl (gn rfl rfl rfl (r (pk rfl rfl) (r (sa rfl) (re (rt ?_))))))
        exact fin1 (v := .bool false) Tryz.results14 rfl ⟨congrArg Value.bool ((decide_eq_false (by omega)).symm), hcg1⟩
    · refine gn rfl rfl rfl (gn rfl rfl rfl (gn rfl rfl rfl (r (pk rfl rfl) (r (mv rfl) (gn rfl rfl rfl (gn rfl rfl rfl (gn rfl rfl rfl (r (pk rfl rfl) (r (sa rfl) (re (rt ?_)))))))))))
      exact fin1 (v := .bool false) Tryz.results14 rfl ⟨congrArg Value.bool ((decide_eq_false (by omega)).symm), hcg1⟩
  · refine gn rfl rfl rfl (gn rfl rfl rfl (gn rfl rfl rfl (r (pk rfl rfl) (r (mv rfl) (gn rfl rfl rfl (gn rfl rfl rfl (gn rfl rfl rfl (r (pk rfl rfl) (r (mv rfl) (gn rfl rfl rfl (gn rfl rfl rfl (gn rfl rfl rfl (r (pk rfl rfl) (r (sa rfl) (re (rt ?_))))))))))))))))
    exact fin1 (v := .bool false) Tryz.results14 rfl ⟨congrArg Value.bool ((decide_eq_false (by omega)).symm), hcg1⟩
/-- The places of a geometry: payload, tables, log, blocks, cap. -/
def tabs (s b : Int) : Int := (2 * (s * b) + 63) / 64
def logs (s b : Int) : Int := 2 * (1 + tabs s b)
def lay (s b : Int) : List Int := if geo s b then [s * b, tabs s b, logs s b, logs s b + s * b, s * b - 2 * b] else [0, 0, 0, 0, 0]
theorem geo_mul {s b : Int} (h : geo s b) : 0 ≤ s * b ∧ s * b ≤ 1024 := by
  obtain ⟨h1, h2, h3, h4⟩ := h
  exact ⟨Int.mul_nonneg (by omega) (by omega), Int.le_trans (Int.mul_le_mul h2 h4 (by omega) (by omega)) (by omega)⟩
theorem impl_Layout {w : World} {s b : Int} : Ret Tryz.prog 15 #[.agg #[.int .i64 s, .int .i64 b]] w (fun r w' => r = .agg ((lay s b).map (Value.int .i64)).toArray ∧ Ch [] w w') := by
  refine enter Tryz.func15 rfl Tryz.ntmps15 (by rfl) (by rfl) ?_
  refine sq (rg (bx rfl ?_))
  intro g1 wg1 eg1 sg1 bg1 cg1
  have qg1 := le_new (Ch.refl [] w).size eg1
  have hcg1 : Ch [] w wg1 := (Ch.refl [] w).t cg1
  replace bg1 : B wg1 g1 25 ([.int .i64 s, .int .i64 b]) := bg1
  refine al ti51 ?_
  intro g2 wg2 eg2 sg2 bg2 cg2
  have ng1_g2 := ne_new bg1.lt eg2
  have qg2 := le_new hcg1.size eg2
  replace bg1 := cg2.b0 bg1
  have hcg2 : Ch [] w wg2 := hcg1.t cg2
  replace bg2 : B wg2 g2 51 ([.int .i64 0, .int .i64 0, .int .i64 0, .int .i64 0, .int .i64 0]) := bg2
  refine re (sq (sq (rg (r (lab [.int .i64 s, .int .i64 b] Tryz.underlying25 rfl ti25 rfl bg1 rfl rfl) (cl go14 (valid) (ac rfl an) ?_)))))
  rintro r wa ⟨rfl, ca⟩
  replace bg1 := ca.b0 bg1
  replace bg2 := ca.b0 bg2
  have hca : Ch [] w wa := hcg2.t ca
  refine r (nt rfl) (re ?_)
  refine cpn rfl (fun h => ?_) (fun h => ?_)
  · refine sq (rg (r (bd (r := [.int .i64 0, .int .i64 0, .int .i64 0, .int .i64 0, .int .i64 0]) ti51 pl51 pn rfl) (st ti51 rfl rfl bg2 rfl (Nat.le_of_ble_eq_true rfl) (one_all rfl) ?_)))
    intro wS1g2 sS1g2 bg2 cS1g2
    replace bg1 := cS1g2.b bg1 (nin1 ng1_g2)
    have hcS1g2 : Ch [] w wS1g2 := hca.own cS1g2 qg2
    replace bg2 : B wS1g2 g2 51 ([.int .i64 0, .int .i64 0, .int .i64 0, .int .i64 0, .int .i64 0]) := bg2
    refine re (rt ?_)
    exact finc  (cs := [.int .i64 0, .int .i64 0, .int .i64 0, .int .i64 0, .int .i64 0]) Tryz.results15 Tryz.underlying51 rfl ti51 rfl bg2 rfl  ⟨by rw [lay, if_neg h]; rfl, hcS1g2⟩
  · obtain ⟨hm1, hm2⟩ := geo_mul h
    have ht : 0 ≤ tabs s b ∧ tabs s b ≤ 33 := by unfold tabs; omega
    have hg := h
    obtain ⟨hg1, hg2, hg3, hg4⟩ := hg
    refine sk (sq (rg (r (fa Tryz.underlying25 rfl ti2 rfl rfl) (r (ldb Tryz.underlying2 rfl rfl bg1 rfl) (r (fa Tryz.underlying25 rfl ti2 rfl rfl) (r (ldb Tryz.underlying2 rfl rfl bg1 rfl) (r (ml (s * b) rfl rfl (by omega)) (r (bd (r := [.int .i64 (s * b), .int .i64 0, .int .i64 0, .int .i64 0, .int .i64 0]) ti51 pl51 (pc rfl (cel1 rfl) pn) rfl) (al ti51 ?_)))))))))
    intro g3 wg3 eg3 sg3 bg3 cg3
    have ng1_g3 := ne_new bg1.lt eg3
    have ng2_g3 := ne_new bg2.lt eg3
    have qg3 := le_new hca.size eg3
    replace bg1 := cg3.b0 bg1
    replace bg2 := cg3.b0 bg2
    have hcg3 : Ch [] w wg3 := hca.t cg3
    replace bg3 : B wg3 g3 51 ([.int .i64 0, .int .i64 0, .int .i64 0, .int .i64 0, .int .i64 0]) := bg3
    refine st ti51 rfl rfl bg3 rfl (Nat.le_of_ble_eq_true rfl) (one_all rfl) ?_
    intro wS7g3 sS7g3 bg3 cS7g3
    replace bg1 := cS7g3.b bg1 (nin1 ng1_g3)
    replace bg2 := cS7g3.b bg2 (nin1 ng2_g3)
    have hcS7g3 : Ch [] w wS7g3 := hcg3.own cS7g3 qg3
    replace bg3 : B wS7g3 g3 51 ([.int .i64 (s * b), .int .i64 0, .int .i64 0, .int .i64 0, .int .i64 0]) := bg3
    refine re (sq ?_)
    refine gen (fun ρ => ρ 1 = .pointer (some ⟨g1, 0, none⟩) ∧ ρ 2 = .pointer (some ⟨g2, 0, none⟩) ∧ ρ 3 = .pointer (some ⟨g3, 0, none⟩) ∧ True) ⟨rfl, rfl, rfl, trivial⟩ ?_
    rintro ρ ⟨z1, z2, z3, -⟩
    refine rg (r (fa Tryz.underlying51 rfl ti2 rfl z3) (r (ldb Tryz.underlying2 rfl rfl bg3 rfl) (r (ml (2 * (s * b)) rfl rfl (by omega)) (r (ad ((2 * (s * b)) + 64) rfl rfl (by omega)) (r (sb (((2 * (s * b)) + 64) - 1) rfl rfl (by omega)) (r (dv (tabs s b) rfl rfl (by rw [Int.tdiv_eq_ediv_of_nonneg (by omega)]; unfold tabs; omega)) (r (fa Tryz.underlying51 rfl ti2 rfl z3) (st ti2 rfl rfl bg3 rfl (Nat.le_of_ble_eq_true rfl) (one_all rfl) ?_))))))))
    intro wS7g3 sS7g3 bg3 cS7g3
    replace bg1 := cS7g3.b bg1 (nin1 ng1_g3)
    replace bg2 := cS7g3.b bg2 (nin1 ng2_g3)
    have hcS7g3 : Ch [] w wS7g3 := hcS7g3.own cS7g3 qg3
    replace bg3 : B wS7g3 g3 51 ([.int .i64 (s * b), .int .i64 (tabs s b), .int .i64 0, .int .i64 0, .int .i64 0]) := bg3
    refine re (sq (rg (r (fa Tryz.underlying51 rfl ti2 rfl z3) (r (ldb Tryz.underlying2 rfl rfl bg3 rfl) (r (ad (1 + (tabs s b)) rfl rfl (by omega)) (r (ml (2 * (1 + (tabs s b))) rfl rfl (by omega)) (r (fa Tryz.underlying51 rfl ti2 rfl z3) (st ti2 rfl rfl bg3 rfl (Nat.le_of_ble_eq_true rfl) (one_all rfl) ?_))))))))
    intro wS5g3 sS5g3 bg3 cS5g3
    replace bg1 := cS5g3.b bg1 (nin1 ng1_g3)
    replace bg2 := cS5g3.b bg2 (nin1 ng2_g3)
    have hcS5g3 : Ch [] w wS5g3 := hcS7g3.own cS5g3 qg3
    replace bg3 : B wS5g3 g3 51 ([.int .i64 (s * b), .int .i64 (tabs s b), .int .i64 (2 * (1 + (tabs s b))), .int .i64 0, .int .i64 0]) := bg3
    refine re (sq ?_)
    refine gen (fun ρ => ρ 1 = .pointer (some ⟨g1, 0, none⟩) ∧ ρ 2 = .pointer (some ⟨g2, 0, none⟩) ∧ ρ 3 = .pointer (some ⟨g3, 0, none⟩) ∧ True) ⟨z1, z2, z3, trivial⟩ ?_
    rintro ρ ⟨z1, z2, z3, -⟩
    refine rg (r (fa Tryz.underlying51 rfl ti2 rfl z3) (r (ldb Tryz.underlying2 rfl rfl bg3 rfl) (r (fa Tryz.underlying51 rfl ti2 rfl z3) (r (ldb Tryz.underlying2 rfl rfl bg3 rfl) (r (ad ((2 * (1 + (tabs s b))) + (s * b)) rfl rfl (by omega)) (r (fa Tryz.underlying51 rfl ti2 rfl z3) (st ti2 rfl rfl bg3 rfl (Nat.le_of_ble_eq_true rfl) (one_all rfl) ?_)))))))
    intro wS6g3 sS6g3 bg3 cS6g3
    replace bg1 := cS6g3.b bg1 (nin1 ng1_g3)
    replace bg2 := cS6g3.b bg2 (nin1 ng2_g3)
    have hcS6g3 : Ch [] w wS6g3 := hcS5g3.own cS6g3 qg3
    replace bg3 : B wS6g3 g3 51 ([.int .i64 (s * b), .int .i64 (tabs s b), .int .i64 (2 * (1 + (tabs s b))), .int .i64 ((2 * (1 + (tabs s b))) + (s * b)), .int .i64 0]) := bg3
    refine re (sq (rg (r (fa Tryz.underlying51 rfl ti2 rfl z3) (r (ldb Tryz.underlying2 rfl rfl bg3 rfl) (r (fa Tryz.underlying25 rfl ti2 rfl z1) (r (ldb Tryz.underlying2 rfl rfl bg1 rfl) (r (ml (2 * b) rfl rfl (by omega)) (r (sb ((s * b) - (2 * b)) rfl rfl (by omega)) (r (fa Tryz.underlying51 rfl ti2 rfl z3) (st ti2 rfl rfl bg3 rfl (Nat.le_of_ble_eq_true rfl) (one_all rfl) ?_))))))))))
    intro wS7g3 sS7g3 bg3 cS7g3
    replace bg1 := cS7g3.b bg1 (nin1 ng1_g3)
    replace bg2 := cS7g3.b bg2 (nin1 ng2_g3)
    have hcS7g3 : Ch [] w wS7g3 := hcS6g3.own cS7g3 qg3
    replace bg3 : B wS7g3 g3 51 ([.int .i64 (s * b), .int .i64 (tabs s b), .int .i64 (2 * (1 + (tabs s b))), .int .i64 ((2 * (1 + (tabs s b))) + (s * b)), .int .i64 ((s * b) - (2 * b))]) := bg3
    refine re (sq ?_)
    refine gen (fun ρ => ρ 2 = .pointer (some ⟨g2, 0, none⟩) ∧ ρ 3 = .pointer (some ⟨g3, 0, none⟩) ∧ True) ⟨z2, z3, trivial⟩ ?_
    rintro ρ ⟨z2, z3, -⟩
    refine rg (r (lab [.int .i64 (s * b), .int .i64 (tabs s b), .int .i64 (2 * (1 + (tabs s b))), .int .i64 ((2 * (1 + (tabs s b))) + (s * b)), .int .i64 ((s * b) - (2 * b))] Tryz.underlying51 rfl ti51 z3 bg3 rfl rfl) (st ti51 z2 rfl bg2 rfl (Nat.le_of_ble_eq_true rfl) (one_all rfl) ?_))
    intro wS1g2 sS1g2 bg2 cS1g2
    replace bg1 := cS1g2.b bg1 (nin1 ng1_g2)
    replace bg3 := cS1g2.b bg3 (nin1 ng2_g3.symm)
    have hcS1g2 : Ch [] w wS1g2 := hcS7g3.own cS1g2 qg2
    replace bg2 : B wS1g2 g2 51 ([.int .i64 (s * b), .int .i64 (tabs s b), .int .i64 (2 * (1 + (tabs s b))), .int .i64 ((2 * (1 + (tabs s b))) + (s * b)), .int .i64 ((s * b) - (2 * b))]) := bg2
    refine re (rt ?_)
    exact finc  (cs := [.int .i64 (s * b), .int .i64 (tabs s b), .int .i64 (2 * (1 + (tabs s b))), .int .i64 ((2 * (1 + (tabs s b))) + (s * b)), .int .i64 ((s * b) - (2 * b))]) Tryz.results15 Tryz.underlying51 rfl ti51 z2 bg2 rfl  ⟨by rw [lay, if_pos h]; rfl, hcS1g2⟩
end Go.Proofs.YtanfhikfeabidaaGreatDoor

namespace Go.Eng
set_option linter.unusedVariables false
set_option linter.unusedSimpArgs false

section
variable {P : Program} {n : Nat} {k : List It} {Qf : Exit → Act → World → Prop} {ρ : Fr} {ds : List Deferred} {w : World} {ops : Array Oper} {K : Fr → World → Prop} {S' : World → Prop} {fuel : Nat} {listed : Array Bool}

def Dq (n : Nat) (ds : List Deferred) (K : Fr → World → Prop) : Exit → Act → World → Prop := fun e a w => e = .normal ∧ ∃ ρ, Sim n ρ ds a ∧ K ρ w
/-- From here on whatever comes up next comes to what is asked. S': what holds of the world all the while. -/
def D (P : Program) (n : Nat) (ops : Array Oper) (K : Fr → World → Prop) (S' : World → Prop) (fuel : Nat) (listed : Array Bool) (ρ : Fr) (ds : List Deferred) (w : World) : Prop :=
  okl n ops.toList = true → S' w → ∀ a, Sim n ρ ds a → wpAnyH P .any ops (Dq n ds K) S' fuel listed a w
theorem okl_at {l : List Oper} (h : okl n l = true) {i : Nat} {o : Oper} (hi : l[i]? = some o) : okd n o.dst = true := by
  induction l generalizing i with
  | nil => cases hi
  | cons x l ih =>
    simp only [okl, Bool.and_eq_true] at h
    cases i with
    | zero => simp only [List.getElem?_cons_zero, Option.some.injEq] at hi; subst hi; exact h.1
    | succ i => exact ih h.2 (by simpa using hi)
/-- Number i comes up: what it asks. -/
def Up (P : Program) (n : Nat) (ops : Array Oper) (K : Fr → World → Prop) (S' : World → Prop) (fuel : Nat) (listed : Array Bool) (i : Nat) (ρ : Fr) (ds : List Deferred) (w : World) : Prop :=
  okl n ops.toList = true → S' w → ∀ a, Sim n ρ ds a → wpOp P ops (Dq n ds K) i (fun a' w' => S' w' ∧ wpAnyH P .any ops (Dq n ds K) S' fuel (listed.setIfInBounds i true) a' w') a w
end
end Go.Eng

namespace Go.Eng
set_option linter.unusedVariables false
set_option linter.unusedSimpArgs false

/-- What is read is owned: kinds without blocks of their own. -/
def Kd.Flat {α : Type} (d : Kd α) : Prop := ∀ w F x cs, d.K w F x cs → d.O w [] x cs
theorem flat_int (k : IntKind) : (Kd.int k).Flat := fun w F x cs h => ⟨h.1, rfl⟩
theorem Els.flat {α : Type} {d : Kd α} (hf : d.Flat) {w : World} {xs : List α} : ∀ {F : List Nat} {cs : List Value}, Els (d.K w) F xs cs → Els (d.O w) [] xs cs := by
  induction xs with
  | nil => rintro F cs ⟨rfl, rfl⟩; exact ⟨rfl, rfl⟩
  | cons x xs ih =>
    rintro F cs ⟨F1, F2, c1, c2, rfl, rfl, h1, h2⟩
    exact ⟨[], [], c1, c2, rfl, rfl, hf _ _ _ _ h1, ih h2⟩
section
variable {P : Program} {n : Nat} {k : List It} {Qf : Exit → Act → World → Prop} {ρ : Fr} {ds : List Deferred} {w : World}
variable {ops : Array Oper} {rest : List Oper} {d : Option Nat} {ty : TypeId} {pos : String} {af : Array Edge}

/-- An operation that acts: it comes to some value and world, of which Φ holds. -/
def Ex (P : Program) (ρ : Fr) (o : Oper) (w : World) (Φ : Value → World → Prop) : Prop := o.guard = none ∧ ∃ v w', (execOp (ev ρ) o).run P w = .ok (.value v) w' ∧ Φ v w'
theorem ef {o : Oper} {Φ : Value → World → Prop} (h : Ex P ρ o w Φ) (hk : ∀ v w', Φ v w' → L P n ops rest k Qf (updo ρ o.dst v) ds w') : L P n ops (o :: rest) k Qf ρ ds w := by
  obtain ⟨hg, v, w', hr, hΦ⟩ := h
  exact opv hg hr (hk v w' hΦ)
theorem run_ap_nil {t e : TypeId} {z : Value} {sz by_ : Nat} (ht : P.underlying t = some (.slice e)) (hi : TI P e z sz by_) {A : Option Addr} {m c : Nat} (hmc : m ≤ c) (a : Option Addr) (c' : Nat) (ha : a = none) : (Builtin.append_ #[t, t] ty #[.slice A m c, .slice a 0 c']).run P w = .ok (.slice A m c) w := by
  obtain ⟨i0, hi0, hz, hsz, _⟩ := info_parts hi
  subst ha
  cases A <;> simp [Builtin.append_, run_underlying ht, sizeOf, typeInfo, hi0, Builtin.lenOf, Builtin.firstCells, hmc, storeCells, Addr.add]
/-- 's = append(s, x...)', the elements without blocks of their own. -/
theorem aps {α : Type} {dk : Kd α} {t e : TypeId} {z : Value} {by_ : Nat} {s x : Operand} {F G : List Nat} {v u : Value} {xs ys : List α}
    (ht : P.underlying t = some (.slice e)) (hi : TI P e z dk.sz by_) (hz : z.cells.size = dk.sz) (hf : dk.Flat) (hs : ev ρ s = v) (hx : ev ρ x = u) (hW : dk.W e w F v xs) (hR : dk.R w G u ys) (hn : F.Nodup) (hb : (xs.length + ys.length) * by_ ≤ 140737488355328 ∧ xs.length + ys.length ≤ 140737488355328) :
    Ex P ρ ⟨d, .call ⟨.builtin .append, #[s, x], #[t, t]⟩, ty, pos, af, none⟩ w (fun v' w' => ∃ F', Apd dk e w w' F [] F' v v' (xs ++ ys)) := by
  refine ⟨rfl, ?_⟩
  obtain ⟨A, c, G1, Gs, cs, rfl, hc, rfl, hG, he, hr⟩ := hR
  have hE := he.flat hf
  have hx' : ∀ (r : Result Value), (Builtin.append_ #[t, t] ty #[v, .slice A ys.length c]).run P w = r → (execOp (ev ρ) ⟨d, .call ⟨.builtin .append, #[s, x], #[t, t]⟩, ty, pos, af, none⟩).run P w = r.andThen (fun v w' => .ok (.value v) w') := by
    intro r hr'
    simp [execOp, resolve, invoke, builtin, hs, hx, hr']
  cases hA : A with
  | none =>
    subst hA
    have hy : ys = [] := by
      cases ys with
      | nil => rfl
      | cons y ys =>
        have hl := he.length (sz := dk.sz) (fun _ _ _ h => dk.len h)
        have hp : 0 < cs.length := by rw [hl]; exact Nat.mul_pos (by simp) dk.pos
        obtain ⟨ad, e1, _⟩ := hr 0 _ (List.getElem?_eq_getElem hp)
        cases e1
    subst hy
    obtain ⟨A', c', rfl, hle⟩ := hW.R.shape
    refine ⟨_, w, hx' _ (run_ap_nil ht hi hle none c rfl), F, ⟨by simpa using hW, hn, fun k hk => .inl hk, Ch.refl _ _⟩⟩
  | some a =>
    subst hA
    obtain ⟨v', w', F', hrun, hA⟩ := run_ap (P := P) (ty := ty) (dk := dk) ht hi hz hW (G := []) (ys := ys) (by simpa using hn) a c cs hE (fun j u hu => by
      obtain ⟨ad, e1, _, e3⟩ := hr j u hu
      injection e1 with e1
      subst e1; exact e3) hb.1 hb.2
    exact ⟨v', w', hx' _ hrun, F', hA⟩

/-- A slice literal: its block. -/
theorem bsm {t e : TypeId} {m : Nat} {parts : Array (Nat × Operand)} {z : Value} {sz by_ : Nat} {Lp : List (Nat × List Value)} {cs : List Value} (ht : P.underlying t = some (.slice e)) (hi : TI P e z sz by_) (hz : z.cells.size = sz) (hm : (Nat.blt 0 (m * sz) && Nat.ble (m * sz) 1000) = true)
    (hp : parts.toList.map (fun p => (p.1, (ev ρ p.2).cells.toList)) = Lp) (hr : fillL ((List.range m).map (fun i => (i * sz, sz))) (List.replicate m z.cells.toList).flatten Lp = some cs) :
    Ex P ρ ⟨d, .buildSlice t m parts, ty, pos, af, none⟩ w (fun v w' => ∃ g, g = w.heap.size ∧ v = .slice (some ⟨g, 0, none⟩) m m ∧ w'.heap.size = g + 1 ∧ B w' g e cs ∧ Ch [] w w') := by
  obtain ⟨i0, hi0, hz0, hsz, _⟩ := hi.size
  simp only [Bool.and_eq_true, Nat.blt_eq, Nat.ble_eq] at hm
  have hz' : 0 < z.cells.size := by
    rcases Nat.eq_zero_or_pos sz with h | h
    · rw [h] at hm; omega
    · omega
  have hfill : Instr.fill (fun i => some (i * i0.size, i0.size)) (madeCells z.cells (m * i0.size)) (parts.map fun (i, x) => (i, ev ρ x)).toList = some cs.toArray := by
    rw [hsz]
    refine fill_L (pl := (List.range m).map (fun i => (i * sz, sz))) ?_ (L := Lp) (by rw [← hp]; simp) ?_
    · intro i q h
      rw [List.getElem?_map, Option.map_eq_some_iff] at h
      obtain ⟨j, hj, rfl⟩ := h
      have := List.getElem?_eq_some_iff.1 hj
      obtain ⟨h1, h2⟩ := this
      simp at h2; subst h2; rfl
    · rw [← hz, made_flat z.cells hz', hz]; exact hr
  refine ⟨rfl, _, w.alloc (.cells cs.toArray e), ?_, w.heap.size, rfl, rfl, by simp, b_alloc _ _ _, ch_alloc _ _⟩
  simp only [execOp, Sem.run_bind, run_buildSlice w t e m _ cs.toArray i0 z ht hi0 hz0 (by rw [hsz]; omega) (by rw [hsz]; omega) hfill, Result.andThen_ok, Sem.run_pure]
/-- A block of one's own is a row. -/
theorem row_of_B {α : Type} {dk : Kd α} {e : TypeId} {g : Nat} {G : List Nat} {xs : List α} {cs : List Value} (hB : B w g e cs) (hE : Els (dk.O w) G xs cs) (hm : xs.length ≤ maxLen) : dk.W e w (g :: G) (.slice (some ⟨g, 0, none⟩) xs.length xs.length) xs := by
  have hl := hE.length (sz := dk.sz) (fun _ _ _ h => dk.len (dk.own h))
  refine ⟨G, cs, ⟨hl, .inr ⟨g, xs.length, cs.toArray, rfl, Nat.zero_le _, hB, Nat.le_refl _, hm, by simpa using hl, ?_⟩⟩, by simp [Value.ownBlock], hE⟩
  rw [List.toList_toArray, ← hl, List.take_length]
theorem els_int {k : IntKind} (xs : List Int) : Els ((Kd.int k).O w) [] xs (xs.map (Value.int k)) := by
  induction xs with
  | nil => exact ⟨rfl, rfl⟩
  | cons x xs ih => exact ⟨[], [], [.int k x], _, rfl, rfl, ⟨rfl, rfl⟩, ih⟩
theorem els_flat {α : Type} {sz : Nat} {enc : α → List Value} {hp : 0 < sz} {hl : ∀ x, (enc x).length = sz} {h1 : ∀ x u, u ∈ enc x → u.oneCell' = true} (xs : List α) : Els ((Kd.flat sz enc hp hl h1).O w) [] xs (xs.flatMap enc) := by
  induction xs with
  | nil => exact ⟨rfl, rfl⟩
  | cons x xs ih => exact ⟨[], [], enc x, _, rfl, rfl, ⟨rfl, rfl⟩, ih⟩
theorem els_int_inv {k : IntKind} {xs : List Int} : ∀ {F : List Nat} {cs : List Value}, Els ((Kd.int k).K w) F xs cs → cs = xs.map (Value.int k) := by
  induction xs with
  | nil => rintro F cs ⟨_, rfl⟩; rfl
  | cons x xs ih =>
    rintro F cs ⟨F1, F2, c1, c2, rfl, rfl, ⟨rfl, rfl⟩, h2⟩
    rw [ih h2]; rfl
/-- A row of numbers: its cells. -/
theorem Kd.R.ints {k : IntKind} {F : List Nat} {v : Value} {xs : List Int} (h : (Kd.int k).R w F v xs) (hp : 0 < xs.length) : ∃ p c, v = .slice (some p) xs.length c ∧ ∀ j u, (xs.map (Value.int k))[j]? = some u → w.cell? (p.add j) = some u := by
  obtain ⟨A, c, G, Fs, cs, rfl, hc, rfl, hG, he, hr⟩ := h
  obtain rfl := els_int_inv he
  obtain ⟨ad, rfl, _⟩ := hr 0 _ (List.getElem?_eq_getElem (by simpa using hp))
  refine ⟨ad, c, rfl, fun j u hu => ?_⟩
  obtain ⟨ad', e1, _, e3⟩ := hr j u hu
  injection e1 with e1
  subst e1; exact e3

/-! ### Arrays -/
theorem s2a {arr e : TypeId} {m len c : Nat} {x : Operand} {p : Addr} (hu : P.underlying arr = some (.array m e)) (hx : ev ρ x = .slice (some p) len c) (h : m ≤ len) : Rn P ρ ⟨d, .sliceToArrayPointer arr x, ty, pos, af, none⟩ w (.pointer (some p)) :=
  ⟨rfl, fun w' _ => by simp [execOp, hx, Instr.arrayAt, run_underlying hu, show ¬ len < m by omega]⟩
theorem sla {arr e : TypeId} {m : Nat} {x : Operand} {p : Addr} {z : Value} {sz by_ : Nat} (hu : P.underlying arr = some (.array m e)) (hi : TI P e z sz by_) (hx : ev ρ x = .pointer (some p)) : Rn P ρ ⟨d, .slice arr x none none none, ty, pos, af, none⟩ w (.slice (some p) m m) := by
  obtain ⟨i0, hi0, hz, hsz, _⟩ := info_parts hi
  refine ⟨rfl, fun w' _ => ?_⟩
  simp [execOp, hx, Instr.sliceAt, run_underlying hu, Instr.sureAddr, Instr.sliceBounds, sizeOf, typeInfo, hi0, Addr.add]
end
/-! ### Arrays of bytes -/
abbrev byts (xs : List Int) : List Value := xs.map (Value.int .u8)
section
variable {P : Program} {n : Nat} {k : List It} {Qf : Exit → Act → World → Prop} {ρ : Fr} {ds : List Deferred} {w : World}
variable {ops : Array Oper} {rest : List Oper} {d : Option Nat} {ty : TypeId} {pos : String} {af : Array Edge}
theorem byts_one (xs : List Int) : ∀ u, u ∈ byts xs → u.oneCell' = true := fun u hu => by
  obtain ⟨x, _, rfl⟩ := List.mem_map.1 hu
  rfl
theorem sta {t T : TypeId} {p x : Operand} {g : Nat} {cs : List Value} {xs : List Int} {z : Value} {sz by_ : Nat} (hi : TI P t z sz by_) (hp : ev ρ p = .pointer (some ⟨g, 0, none⟩)) (hx : ev ρ x = .agg (byts xs).toArray) (hl : xs.length = sz) (hB : B w g T cs) (ho : cs.length = sz)
    (h : ∀ w', w'.heap.size = w.heap.size → B w' g T (byts xs) → Ch [g] w w' → L P n ops rest k Qf (updo ρ d undef) ds w') : L P n ops (⟨d, .store t p x, ty, pos, af, none⟩ :: rest) k Qf ρ ds w := by
  refine st' (vs := byts xs) hi hp hx rfl hB (by simpa [byts] using hl) (by omega) (byts_one xs) (fun w' h1 h2 h3 => h w' h1 ?_ h3)
  have e : splice cs 0 (byts xs) = byts xs := by
    simp only [splice, List.take_zero, List.nil_append, byts, List.length_map, Nat.zero_add]
    rw [List.drop_eq_nil_of_le (by omega), List.append_nil]
  rw [e] at h2; exact h2
theorem laa {t T : TypeId} {x : Operand} {g : Nat} {D : TypeDesc} {z : Value} {sz by_ : Nat} {xs : List Int} (ht : P.underlying t = some D) (hD : aggD D = true) (hi : TI P t z sz by_) (hx : ev ρ x = .pointer (some ⟨g, 0, none⟩)) (hB : B w g T (byts xs)) (hl : xs.length = sz) : Rn P ρ ⟨d, .load t x, ty, pos, af, none⟩ w (.agg (byts xs).toArray) :=
  lab (byts xs) ht hD hi hx hB (by simpa [byts] using hl) (by simp only [List.drop_zero]; exact List.take_of_length_le (by simp [byts]; omega))
theorem row_of_arr {g : Nat} {T : TypeId} {xs : List Int} {m : Nat} (hB : B w g T (byts xs)) (hl : xs.length = m) (hm : m ≤ maxLen) : (Kd.int .u8).W T w [g] (.slice (some ⟨g, 0, none⟩) m m) xs := by
  subst hl
  exact row_of_B hB (els_int xs) hm
end
/-! ### What an append leaves as it was -/
section
variable {α β : Type} {dk : Kd α} {dl : Kd β} {e e2 T : TypeId} {w w0 w' : World} {F G F' Fs : List Nat} {v v' vs : Value} {xs ys : List α} {zs : List β} {b m : Nat} {cs : List Value}
theorem Apd.blk (A : Apd dk e w w' F G F' v v' xs) (hW : dk.W e w F v ys) (d : ∀ k, k ∈ F → k ∉ [b]) (hb : B w b T cs) : B w' b T cs := A.ch.b hb (fun h => d b (W_own hW b h) (by simp))
theorem Apd.low (A : Apd dk e w w' F [] F' v v' xs) (hc : Ch [] w0 w) (f : ∀ k, k ∈ F → w0.heap.size ≤ k) : ∀ k, k ∈ F' → w0.heap.size ≤ k := fun k hk => by
  rcases A.sub k hk with h | h | h
  · exact f k h
  · cases h
  · exact Nat.le_trans hc.size h
theorem Apd.hc (A : Apd dk e w w' F G F' v v' xs) (hW : dk.W e w F v ys) (hc : Ch [] w0 w) (f : ∀ k, k ∈ F → w0.heap.size ≤ k) : Ch [] w0 w' := hc.trans A.ch (fun k hk hl => absurd (f k (W_own hW k hk)) (by omega))
theorem Apd.dis (A : Apd dk e w w' F [] F' v v' xs) (d : ∀ k, k ∈ F → k ∉ [b]) (hb : b < w.heap.size) : ∀ k, k ∈ F' → k ∉ [b] := fun k hk => by
  rcases A.sub k hk with h | h | h
  · exact d k h
  · cases h
  · exact nin1 (by omega)
theorem x_new {n : Nat} (h : ∀ k, k ∈ F → k < n) (f : ∀ k, k ∈ G → n ≤ k) : ∀ k, k ∈ F → k ∉ G := fun k hk hg => by have := h k hk; have := f k hg; omega
theorem low_t (hc : Ch [] w0 w) (f : ∀ k, k ∈ F → w.heap.size ≤ k) : ∀ k, k ∈ F → w0.heap.size ≤ k := fun k hk => Nat.le_trans hc.size (f k hk)
theorem nodup_nil (h : F.Nodup) : (F ++ []).Nodup := by simpa using h
end
end Go.Eng

namespace Go.Proofs.YtanfhikfeabidaaGreatDoor
open Go Go.Eng
set_option maxRecDepth 100000
set_option maxHeartbeats 4000000
set_option linter.unusedVariables false
theorem u8_in {x : Int} (h : 0 ≤ x ∧ x ≤ 255) : IntKind.u8.wrap x = x := by
  unfold IntKind.wrap
  simp only [IntKind.bits, IntKind.signed]
  simp
  omega
/-- The last bytes of a number, the highest first. -/
def big (v : Int) : Nat → List Int
  | 0 => []
  | n + 1 => big (v / 256) n ++ [v % 256]
theorem big_len (v : Int) (n : Nat) : (big v n).length = n := by
  induction n generalizing v with
  | zero => rfl
  | succ n ih => simp [big, ih]
/-- A header that is good; its bytes. -/
abbrev hdr (q s b : Int) : Prop := 1 ≤ q ∧ q ≤ 1099511627776 ∧ 0 ≤ s ∧ s ≤ 65535 ∧ 0 ≤ b ∧ b ≤ 65535
def encH (q s b : Int) : List Int := big q 8 ++ big s 2 ++ big b 2 ++ List.replicate 44 0 ++ big q 8
def encHeader (q s b : Int) : List Int := if hdr q s b then encH q s b else []
/-! ### The program's way: numbers of so many bytes -/
abbrev knum : Kd (Int × Int) := Kd.flat 2 (fun x => [.int .i64 x.1, .int .i64 x.2]) (by decide) (fun _ => rfl) (fun x u hu => by simp at hu; rcases hu with rfl | rfl <;> rfl)
theorem big_get (v : Int) (n j : Nat) (hj : j < n) : (big v n)[j]? = some (v / 256 ^ (n - 1 - j) % 256) := by
  induction n generalizing v with
  | zero => omega
  | succ n ih =>
    rw [big]
    by_cases h : j < n
    · rw [List.getElem?_append_left (by rw [big_len]; exact h), ih _ h, Int.ediv_ediv_of_nonneg (by omega)]
      congr 3
      rw [show n + 1 - 1 - j = (n - 1 - j) + 1 by omega, Int.pow_succ, Int.mul_comm]
    · obtain rfl : j = n := by omega
      rw [List.getElem?_append_right (by rw [big_len]; omega), big_len]
      simp
theorem big_take (v : Int) (n j : Nat) (hj : j < n) : (big v n).take (j + 1) = (big v n).take j ++ [v / 256 ^ (n - 1 - j) % 256] := by
  have hl : j < (big v n).length := by rw [big_len]; exact hj
  have h := big_get v n j hj
  rw [List.getElem?_eq_getElem hl, Option.some.injEq] at h
  rw [List.take_succ_eq_append_getElem hl, h]
/-- A shift by whole bytes. -/
theorem shr_byte {v : Int} (hv : 0 ≤ v ∧ v ≤ 9223372036854775807) (k : Nat) : (v.fdiv (2 ^ (min (8 * (k : Int)).toNat 64))) = v / 256 ^ k := by
  have e : (8 * (k : Int)).toNat = 8 * k := by omega
  have hp : ∀ m : Nat, (2 : Int) ^ (8 * m) = 256 ^ m := fun m => by rw [Int.pow_mul]; rfl
  rw [e, Int.fdiv_eq_ediv_of_nonneg _ (Int.le_of_lt (Int.pow_pos (by omega)))]
  by_cases h : k ≤ 8
  · rw [Nat.min_eq_left (by omega), hp]
  · rw [Nat.min_eq_right (by omega)]
    have h1 : v / 2 ^ 64 = 0 := Int.ediv_eq_zero_of_lt hv.1 (by omega)
    have h2 : (2 : Int) ^ 64 ≤ 256 ^ k := by
      rw [show (2 : Int) ^ 64 = 256 ^ 8 by rfl]
      exact_mod_cast Nat.pow_le_pow_right (n := 256) (by omega) (show 8 ≤ k by omega)
    rw [h1, Int.ediv_eq_zero_of_lt hv.1 (by omega)]
theorem u8_wrap {x : Int} (h : 0 ≤ x) : IntKind.u8.wrap x = x % 256 := by
  unfold IntKind.wrap
  simp only [IntKind.bits, IntKind.signed]
  simp
def flat (ns : List (Int × Int)) : List Int := ns.flatMap (fun x => big x.2 x.1.toNat)
theorem flat_len {ns : List (Int × Int)} (h : ∀ x, x ∈ ns → x.1 ≤ 100) : (flat ns).length ≤ 100 * ns.length := by
  induction ns with
  | nil => simp [flat]
  | cons x xs ih =>
    have h1 := ih (fun y hy => h y (List.mem_cons_of_mem _ hy))
    have h2 := h x (by simp)
    simp only [flat, List.flatMap_cons, List.length_append, big_len, List.length_cons] at h1 ⊢
    omega
theorem flat_succ {ns : List (Int × Int)} {i : Nat} (hi : i < ns.length) : flat (ns.take (i + 1)) = flat (ns.take i) ++ big ns[i].2 ns[i].1.toNat := by
  rw [List.take_succ_eq_append_getElem hi]
  simp only [flat, List.flatMap_append, List.flatMap_cons, List.flatMap_nil, List.append_nil]
theorem bytesOf {w : World} {F : List Nat} {v : Value} {ns : List (Int × Int)} (hx : knum.R w F v ns) (lx : ns.length ≤ 2000) (hb : ∀ x, x ∈ ns → 0 ≤ x.1 ∧ x.1 ≤ 100 ∧ 0 ≤ x.2 ∧ x.2 ≤ 9223372036854775807) :
    Ret Tryz.prog 36 #[v] w (fun r w' => New u8 5 w w' r (flat ns) ∧ Ch [] w w') := by
  refine enter Tryz.func36 rfl Tryz.ntmps36 (by rfl) (by rfl) ?_
  refine sq (rg (r (sa rfl) (re (sq (rg (r (sa rfl) (re (sq (sq (rg (r (mv rfl) (r (ln Tryz.underlying145 rfl ((hx.t (Ch.refl [] w)))) (r (mv rfl) (re (bl ?_)))))))))))))))
  have W1 := Kd.nil_W u8 5 w
  have n1 : ([] : List Nat).Nodup := List.nodup_nil
  have f1 : ∀ k, k ∈ ([] : List Nat) → w.heap.size ≤ k := by simp
  refine lp (α := Nat × List Nat × Value) (fun (i, F1, o) ρ w' => ρ 7 = v ∧ ρ 8 = .int .i64 (ns.length : Int) ∧ ρ 9 = .int .i64 (i : Int) ∧ ρ 3 = o ∧ Ch [] w w' ∧ Kd.W u8 5 w' F1 o (flat (ns.take i)) ∧ F1.Nodup ∧ (∀ k, k ∈ F1 → w.heap.size ≤ k) ∧ i ≤ ns.length) (fun (i, F1, o) => ns.length - i) (0, [], .slice none 0 0) ?_ ?_
  · exact ⟨rfl, rfl, rfl, rfl, (Ch.refl [] w), W1, n1, f1, by omega⟩
  rintro ⟨i, F1, o⟩ ρ w' ⟨y7, y8, y9, y3, hc, W1, n1, f1, hi⟩
  refine sq (rg (r (bi y9 y8 rfl) (re (sq ?_))))
  refine cp rfl (fun h => ?_) (fun h => ?_)
  · have hi' : i < ns.length := by omega
    have hl := flat_len (ns := ns.take i) (fun x hx => (hb x (List.mem_of_mem_take hx)).2.1)
    rw [List.length_take] at hl
    obtain ⟨hw1, hw2, hv1, hv2⟩ := hb ns[i] (List.getElem_mem hi')
    obtain ⟨m, hm⟩ : ∃ m : Nat, ns[i].1 = (m : Int) := ⟨ns[i].1.toNat, by omega⟩
    have hS := flat_succ hi'
    rw [show ns[i].1.toNat = m by omega] at hS
    have hbl := big_len ns[i].2 m
    refine sk (sq (bl (sq (rg ?_))))
    obtain ⟨c11, ad11, k11, e11, p11⟩ := (hx).place i (by omega)
    have q11 := flat_at p11
    refine r (ix Tryz.underlying145 ti103 (y7.trans e11) y9 (by omega)) (r (la [.int .i64 ((ns[i]).1), .int .i64 ((ns[i]).2)] Tryz.underlying103 rfl ti103 rfl rfl (fun m u h => Ch.cell hc (q11 m u h))) (al ti103 ?_))
    intro g5 wg5 eg5 sg5 bg5 cg5
    have d1_g5 := fresh_d W1.lt eg5
    have qg5 := le_new hc.size eg5
    replace W1 := W1.t cg5
    have hcg5 : Ch [] w wg5 := hc.t cg5
    replace bg5 : B wg5 g5 103 ([.int .i64 0, .int .i64 0]) := bg5
    refine st ti103 rfl rfl bg5 rfl (Nat.le_of_ble_eq_true rfl) (one_all rfl) ?_
    intro wS3g5 sS3g5 bg5 cS3g5
    replace W1 := W1.tt cS3g5 d1_g5
    have hcS3g5 : Ch [] w wS3g5 := hcg5.own cS3g5 qg5
    replace bg5 : B wS3g5 g5 103 ([.int .i64 ((ns[i]).1), .int .i64 ((ns[i]).2)]) := bg5
    refine re (sq (rg (r (fa Tryz.underlying103 rfl ti2 rfl rfl) (r (ldb Tryz.underlying2 rfl rfl bg5 rfl) (r (sb (((ns[i]).1) - 1) rfl rfl (by omega)) (r (sa rfl) (re (bl ?_))))))))
    refine lp (α := Nat × List Nat × Value) (fun (j, F2, o2) ρ w' => ρ 7 = v ∧ ρ 8 = .int .i64 (ns.length : Int) ∧ ρ 9 = .int .i64 (i : Int) ∧ ρ 3 = o2 ∧ ρ 5 = .pointer (some ⟨g5, 0, none⟩) ∧ ρ 6 = .int .i64 ((m : Int) - 1 - (j : Int)) ∧ B w' g5 103 ([.int .i64 (ns[i].1), .int .i64 (ns[i].2)]) ∧ Ch [] w w' ∧ Kd.W u8 5 w' F2 o2 (flat (ns.take i) ++ (big ns[i].2 m).take j) ∧ F2.Nodup ∧ (∀ k, k ∈ F2 → w.heap.size ≤ k) ∧ (∀ k, k ∈ F2 → k ∉ [g5]) ∧ j ≤ m) (fun (j, F2, o2) => m - j) (0, F1, o) ?_ ?_
    · exact ⟨y7, y8, y9, y3, rfl, (show _ = Value.int .i64 (ns[i].1 - 1) from rfl).trans (by rw [hm]; simp), bg5, hcS3g5, (by simpa using W1), n1, f1, d1_g5, by omega⟩
    rintro ⟨j, F2, o2⟩ ρ w' ⟨y7, y8, y9, y3, y5, y6, bg5, hc, W1, n1, f1, d1_g5, hj⟩
    refine sq (sq (rg (r (mv y6) (r (bi rfl rfl rfl) (re ?_)))))
    refine cp rfl (fun hk => ?_) (fun hk => ?_)
    · obtain ⟨q, hq⟩ : ∃ q : Nat, m - 1 - j = q := ⟨_, rfl⟩
      rw [show (m : Int) - 1 - (j : Int) = (q : Int) by omega] at y6
      have hlt : ((big ns[i].2 m).take j).length ≤ 100 := by rw [List.length_take]; omega
      refine sk (sq (bl (rg (r (mv y3) (r (fa Tryz.underlying103 rfl ti2 rfl y5) (r (ldb Tryz.underlying2 rfl rfl bg5 rfl) (r (mv y6) (r (ml (8 * (q : Int)) rfl rfl (by omega)) (r (sr (ns[i].2 / 256 ^ q) rfl rfl (⟨by omega, shr_byte ⟨hv1, hv2⟩ q⟩)) (r (cv (ns[i].2 / 256 ^ q % 256) Tryz.underlying2 Tryz.underlying5 rfl (u8_wrap (Int.ediv_nonneg hv1 (Int.le_of_lt (Int.pow_pos (by omega)))))) (ap1 Tryz.underlying22 ti5 rfl (fun _ => rfl) rfl W1 (show Kd.O u8 _ [] (ns[i].2 / 256 ^ q % 256) _ from ⟨rfl, rfl⟩) (nodup_nil n1) (by simp only [List.length_append]; omega) rfl ?_)))))))))))
      intro _ v28 w28 F28 A28
      have hA28 := A28.hc W1 hc f1
      have tb := A28.blk W1 d1_g5 bg5
      replace d1_g5 := A28.dis d1_g5 bg5.lt
      replace bg5 := tb
      clear tb
      replace f1 := A28.low hc f1
      replace n1 := A28.nd
      replace W1 := A28.W
      refine r (sa rfl) (re (be ?_))
      refine gen (fun ρ => ρ 3 = v28 ∧ ρ 5 = .pointer (some ⟨g5, 0, none⟩) ∧ ρ 6 = .int .i64 (q : Int) ∧ ρ 7 = v ∧ ρ 8 = .int .i64 (ns.length : Int) ∧ ρ 9 = .int .i64 (i : Int) ∧ True) ⟨rfl, y5, y6, y7, y8, y9, trivial⟩ ?_
      rintro ρ ⟨z3, z5, z6, z7, z8, z9, -⟩
      refine rg (r (mv z6) (r (sb ((q : Int) - 1) rfl rfl (by omega)) (r (sa rfl) (re ?_))))
      rw [List.append_assoc, ← hq, ← big_take _ _ _ (by omega)] at W1
      refine ag (j + 1, F28, v28) ⟨z7, z8, z9, z3, z5, (show _ = Value.int .i64 ((q : Int) - 1) from rfl).trans (by congr 1; omega), bg5, hA28, W1, n1, f1, d1_g5, by omega⟩ (by dsimp only; omega)
    · obtain rfl : j = m := by omega
      rw [show (big ns[i].2 j).take j = big ns[i].2 j from List.take_of_length_le (by omega), ← hS] at W1
      refine ex rfl (be (rg (r (ad ((i : Int) + 1) y9 rfl (by omega)) (r (mv rfl) (re ?_)))))
      exact ag (i + 1, F2, o2) ⟨y7, y8, rfl, y3, hc, W1, n1, f1, by omega⟩ (by first | omega | (dsimp only; omega))
  · obtain rfl : i = ns.length := by omega
    rw [List.take_length] at W1
    refine ex rfl (sq (rg (r (mv y3) (r (sa rfl) (re (rt ?_))))))
    exact fin1 (v := o) Tryz.results36 rfl ⟨⟨F1, W1, n1, f1⟩, hc⟩
end Go.Proofs.YtanfhikfeabidaaGreatDoor

namespace Go.Proofs.YtanfhikfeabidaaGreatDoor
open Go Go.Eng
set_option maxRecDepth 100000
set_option maxHeartbeats 4000000
set_option linter.unusedVariables false
theorem Header_valid {w : World} {q s b : Int} : Ret Tryz.prog 66 #[.agg #[.int .i64 q, .int .i64 s, .int .i64 b]] w (fun r w' => r = .bool (decide (hdr q s b)) ∧ Ch [] w w') := by
  refine enter Tryz.func66 rfl Tryz.ntmps66 (by rfl) (by rfl) ?_
  refine sq (rg (bx rfl ?_))
  intro g1 wg1 eg1 sg1 bg1 cg1
  have qg1 := le_new (Ch.refl [] w).size eg1
  have hcg1 : Ch [] w wg1 := (Ch.refl [] w).t cg1
  replace bg1 : B wg1 g1 73 ([.int .i64 q, .int .i64 s, .int .i64 b]) := bg1
  refine r (sa rfl) (re (sq (rg (r (fa Tryz.underlying73 rfl ti2 rfl rfl) (r (ldb Tryz.underlying2 rfl rfl bg1 rfl) (r (bi rfl rfl rfl) (r (mv rfl) ?_)))))))
  refine sp 6 rfl (fun h0 => ?_) (fun h0 => ?_)
  · refine gy rfl rfl rfl (r (fa Tryz.underlying73 rfl ti2 rfl rfl) (gy rfl rfl rfl (r (ldb Tryz.underlying2 rfl rfl bg1 rfl) (gy rfl rfl rfl (r (bi rfl rfl rfl) (r (pk rfl rfl) (r (mv rfl) ?_)))))))
    refine sp 11 rfl (fun h1 => ?_) (fun h1 => ?_)
    · refine gy rfl rfl rfl (r (fa Tryz.underlying73 rfl ti2 rfl rfl) (gy rfl rfl rfl (r (ldb Tryz.underlying2 rfl rfl bg1 rfl) (gy rfl rfl rfl (r (bi rfl rfl rfl) (r (pk rfl rfl) (r (mv rfl) ?_)))))))
      refine sp 16 rfl (fun h2 => ?_) (fun h2 => ?_)
      · refine gy rfl rfl rfl (r (fa Tryz.underlying73 rfl ti2 rfl rfl) (gy rfl rfl rfl (r (ldb Tryz.underlying2 rfl rfl bg1 rfl) (gy rfl rfl rfl (r (bi rfl rfl rfl) (r (pk rfl rfl) (r (mv rfl) ?_)))))))
        refine sp 21 rfl (fun h3 => ?_) (fun h3 => ?_)
        · refine gy rfl rfl rfl (r (fa Tryz.underlying73 rfl ti2 rfl rfl) (gy rfl rfl rfl (r (ldb Tryz.underlying2 rfl rfl bg1 rfl) (gy rfl rfl rfl (r (bi rfl rfl rfl) (r (pk rfl rfl) (r (mv rfl) ?_)))))))
          refine sp 26 rfl (fun h4 => ?_) (fun h4 => ?_)
          · refine gy rfl rfl rfl (r (fa Tryz.underlying73 rfl ti2 rfl rfl) (gy rfl rfl rfl (r (ldb Tryz.underlying2 rfl rfl bg1 rfl) (gy rfl rfl rfl (r (bi rfl rfl rfl) (r (pk rfl rfl) (r (sa rfl) (re (rt ?_)))))))))
            exact fin1 (v := .bool (decide (b ≤ 65535))) Tryz.results66 rfl ⟨congrArg Value.bool (decide_eq_decide.2 (by omega)), hcg1⟩
          · refine gn rfl rfl rfl (gn rfl rfl rfl (gn rfl rfl rfl (r (pk rfl rfl) (r (sa rfl) (re (rt ?_))))))
            exact fin1 (v := .bool false) Tryz.results66 rfl ⟨congrArg Value.bool ((decide_eq_false (by omega)).symm), hcg1⟩
        · refine gn rfl rfl rfl (gn rfl rfl rfl (gn rfl rfl rfl (r (pk rfl rfl) (r (mv rfl) (gn rfl rfl rfl (gn rfl rfl rfl (gn rfl rfl rfl (r (pk rfl rfl) (r (sa rfl) (re (rt ?_)))))))))))
          exact fin1 (v := .bool false) Tryz.results66 rfl ⟨congrArg Value.bool ((decide_eq_false (by omega)).symm), hcg1⟩
      · refine gn rfl rfl rfl (gn rfl rfl rfl (gn rfl rfl rfl (r (pk rfl rfl) (r (mv rfl) (gn rfl rfl rfl (gn rfl rfl rfl (gn rfl rfl rfl (r (pk rfl rfl) (r (mv rfl) (gn rfl rfl rfl (gn rfl rfl rfl (gn rfl rfl rfl (r (pk rfl rfl) (r (sa rfl) (re (rt ?_))))))))))))))))
        exact fin1 (v := .bool false) Tryz.results66 rfl ⟨congrArg Value.bool ((decide_eq_false (by omega)).symm), hcg1⟩
    · refine gn rfl rfl rfl (gn rfl rfl rfl (gn rfl rfl rfl (r (pk rfl rfl) (r (mv rfl) (gn rfl rfl rfl (gn rfl rfl rfl (gn rfl rfl rfl (r (pk rfl rfl) (r (mv rfl) (gn rfl rfl rfl (gn rfl rfl rfl (gn rfl rfl rfl (r (pk rfl rfl) (r (mv rfl) (gn rfl rfl rfl (gn rfl rfl rfl (gn rfl rfl rfl (r (pk rfl rfl) (r (sa rfl) (re (rt ?_)))))))))))))))))))))
      exact fin1 (v := .bool false) Tryz.results66 rfl ⟨congrArg Value.bool ((decide_eq_false (by omega)).symm), hcg1⟩
  · refine gn rfl rfl rfl (gn rfl rfl rfl (gn rfl rfl rfl (r (pk rfl rfl) (r (mv rfl) (gn rfl rfl rfl (gn rfl rfl rfl (gn rfl rfl rfl (r (pk rfl rfl) (r (mv rfl) (gn rfl rfl rfl (gn rfl rfl rfl (gn rfl rfl rfl (r (pk rfl rfl) (r (mv rfl) (gn rfl rfl rfl (gn rfl rfl rfl (gn rfl rfl rfl (r (pk rfl rfl) (r (mv rfl) (gn rfl rfl rfl (gn rfl rfl rfl (gn rfl rfl rfl (r (pk rfl rfl) (r (sa rfl) (re (rt ?_))))))))))))))))))))))))))
    exact fin1 (v := .bool false) Tryz.results66 rfl ⟨congrArg Value.bool ((decide_eq_false (by omega)).symm), hcg1⟩
theorem big_zero (n : Nat) : big 0 n = List.replicate n 0 := by
  induction n with
  | zero => rfl
  | succ n ih => rw [big, show (0 : Int) / 256 = 0 by rfl, ih, show (0 : Int) % 256 = 0 by rfl, ← List.replicate_succ']
theorem encH_flat (q s b : Int) : flat [(8, q), (2, s), (2, b), (44, 0), (8, q)] = encH q s b := by
  have h := big_zero 44
  simp only [flat, List.flatMap_cons, List.flatMap_nil, List.append_nil, encH, List.append_assoc]
  show big q 8 ++ (big s 2 ++ (big b 2 ++ (big 0 44 ++ big q 8))) = _
  rw [h]
theorem encH_len (q s b : Int) : (encH q s b).length = 64 := by simp [encH, big_len]
theorem Header_block {w : World} {q s b : Int} (h : hdr q s b) : Ret Tryz.prog 18 #[.agg #[.int .i64 q, .int .i64 s, .int .i64 b]] w (fun r w' => r = .agg (byts (encH q s b)).toArray ∧ Ch [] w w') := by
  refine enter Tryz.func18 rfl Tryz.ntmps18 (by rfl) (by rfl) ?_
  refine sq (rg (bx rfl ?_))
  intro g1 wg1 eg1 sg1 bg1 cg1
  have qg1 := le_new (Ch.refl [] w).size eg1
  have hcg1 : Ch [] w wg1 := (Ch.refl [] w).t cg1
  replace bg1 : B wg1 g1 73 ([.int .i64 q, .int .i64 s, .int .i64 b]) := bg1
  refine al ti71 ?_
  intro g2 wg2 eg2 sg2 bg2 cg2
  have ng1_g2 := ne_new bg1.lt eg2
  have qg2 := le_new hcg1.size eg2
  replace bg1 := cg2.b0 bg1
  have hcg2 : Ch [] w wg2 := hcg1.t cg2
  replace bg2 : B wg2 g2 71 (byts (List.replicate 64 0)) := bg2
  refine re (sq (rg (r (fa Tryz.underlying73 rfl ti2 rfl rfl) (r (ldb Tryz.underlying2 rfl rfl bg1 rfl) (r (bd (r := [.int .i64 8, .int .i64 q]) ti103 pl103 (pc rfl (cel1 rfl) (pc rfl (cel1 rfl) pn)) rfl) (r (fa Tryz.underlying73 rfl ti2 rfl rfl) (r (ldb Tryz.underlying2 rfl rfl bg1 rfl) (r (bd (r := [.int .i64 2, .int .i64 s]) ti103 pl103 (pc rfl (cel1 rfl) (pc rfl (cel1 rfl) pn)) rfl) (r (fa Tryz.underlying73 rfl ti2 rfl rfl) (r (ldb Tryz.underlying2 rfl rfl bg1 rfl) (r (bd (r := [.int .i64 2, .int .i64 b]) ti103 pl103 (pc rfl (cel1 rfl) (pc rfl (cel1 rfl) pn)) rfl) (r (bd (r := [.int .i64 44, .int .i64 0]) ti103 pl103 (pc rfl (cel1 rfl) (pc rfl (cel1 rfl) pn)) rfl) (r (fa Tryz.underlying73 rfl ti2 rfl rfl) (r (ldb Tryz.underlying2 rfl rfl bg1 rfl) (r (bd (r := [.int .i64 8, .int .i64 q]) ti103 pl103 (pc rfl (cel1 rfl) (pc rfl (cel1 rfl) pn)) rfl) (ef (bsm (cs := [.int .i64 8, .int .i64 q, .int .i64 2, .int .i64 s, .int .i64 2, .int .i64 b, .int .i64 44, .int .i64 0, .int .i64 8, .int .i64 q]) Tryz.underlying145 ti103 rfl (by rfl) (pc rfl rfl (pc rfl rfl (pc rfl rfl (pc rfl rfl (pc rfl rfl pn))))) rfl) ?_))))))))))))))))
  rintro _ wg16 ⟨g16, eg16, rfl, sg16, bg16, cg16⟩
  have ng1_g16 := ne_new bg1.lt eg16
  have ng2_g16 := ne_new bg2.lt eg16
  have qg16 := le_new hcg2.size eg16
  replace bg1 := cg16.b0 bg1
  replace bg2 := cg16.b0 bg2
  have hcg16 : Ch [] w wg16 := hcg2.t cg16
  replace bg16 : B wg16 g16 103 ([.int .i64 8, .int .i64 q, .int .i64 2, .int .i64 s, .int .i64 2, .int .i64 b, .int .i64 44, .int .i64 0, .int .i64 8, .int .i64 q]) := bg16
  refine cl go36 (bytesOf (ns := [(8, q), (2, s), (2, b), (44, 0), (8, q)]) ((row_of_B (dk := knum) (xs := [(8, q), (2, s), (2, b), (44, 0), (8, q)]) bg16 (els_flat [(8, q), (2, s), (2, b), (44, 0), (8, q)]) (Nat.le_of_ble_eq_true rfl)).R) (by simp) (by simp; omega)) (ac rfl an) ?_
  rintro r1 wr ⟨⟨F1, W1, n1, f1⟩, cr⟩
  rw [encH_flat] at W1
  have d1_g1 := old_d f1 bg1.lt
  have d1_g2 := old_d f1 bg2.lt
  have d1_g16 := old_d f1 bg16.lt
  replace f1 := low_t hcg16 f1
  replace bg1 := cr.b0 bg1
  replace bg2 := cr.b0 bg2
  replace bg16 := cr.b0 bg16
  have hcr : Ch [] w wr := hcg16.t cr
  obtain ⟨pz, cz, ez, hz⟩ := W1.R.ints (by rw [encH_len]; decide)
  refine r (s2a Tryz.underlying71 (Eq.trans rfl ez) (by rw [encH_len]; exact Nat.le_refl _)) (r (la (byts (encH q s b)) Tryz.underlying71 rfl ti71 rfl (by simp [byts, encH_len]) hz) (sta ti71 rfl rfl (encH_len q s b) bg2 (by simp) ?_))
  intro wS17g2 sS17g2 bg2 cS17g2
  replace bg1 := cS17g2.b bg1 (nin1 ng1_g2)
  replace bg16 := cS17g2.b bg16 (nin1 ng2_g16.symm)
  replace W1 := W1.tt cS17g2 d1_g2
  have hcS17g2 : Ch [] w wS17g2 := hcr.own cS17g2 qg2
  refine re (rt ?_)
  exact finc  (cs := byts (encH q s b)) Tryz.results18 Tryz.underlying71 rfl ti71 rfl bg2 (by simp [byts, (encH_len q s b)])  ⟨rfl, hcS17g2⟩
/-! ### The laws' marks -/
def marks (k : Int) (n : Nat) : List Int := (List.range n).map (fun i : Nat => IntKind.u8.wrap (k + (i : Int)))
end Go.Proofs.YtanfhikfeabidaaGreatDoor

namespace Go.Eng
set_option linter.unusedVariables false
set_option linter.unusedSimpArgs false

section
variable {P : Program} {n : Nat} {k : List It} {Qf : Exit → Act → World → Prop} {ρ : Fr} {ds : List Deferred} {w : World}
variable {ops : Array Oper} {rest : List Oper} {d : Option Nat} {ty : TypeId} {pos : String} {af : Array Edge}

theorem nodup_mid {α : Type} {a b c : List α} : (a ++ (b ++ c)).Nodup ↔ a.Nodup ∧ b.Nodup ∧ c.Nodup ∧ (∀ x, x ∈ a → x ∉ b) ∧ (∀ x, x ∈ a → x ∉ c) ∧ (∀ x, x ∈ b → x ∉ c) := by
  rw [nodup_app, nodup_app]
  constructor
  · rintro ⟨h1, ⟨h2, h3, h4⟩, h5⟩
    exact ⟨h1, h2, h3, fun x hx hb => h5 x hx (List.mem_append_left _ hb), fun x hx hb => h5 x hx (List.mem_append_right _ hb), h4⟩
  · rintro ⟨h1, h2, h3, h4, h5, h6⟩
    exact ⟨h1, ⟨h2, h3, h6⟩, fun x hx hb => (List.mem_append.1 hb).elim (h4 x hx) (h5 x hx)⟩
/-- A row of one's own, turned by what has been done to it and to its elements' rows. -/
structure Mut {α : Type} (dk : Kd α) (e : TypeId) (w w' : World) (F F' : List Nat) (v : Value) (xs : List α) : Prop where
  W : dk.W e w' F' v xs
  nd : F'.Nodup
  sub : ∀ k, k ∈ F' → k ∈ F ∨ w.heap.size ≤ k
  ch : Ch F w w'
section
variable {α β : Type} {dk : Kd α} {dl : Kd β} {e e2 T : TypeId} {w0 w' : World} {F F' Fs : List Nat} {v vs : Value} {xs ys : List α} {zs : List β} {b : Nat} {cs : List Value}
end
end
end Go.Eng

namespace Go.Proofs.YtanfhikfeabidaaGreatDoor
open Go Go.Eng
set_option maxRecDepth 100000
set_option maxHeartbeats 4000000
set_option linter.unusedVariables false
/-- A pending write: the block, the data. -/
abbrev kW : Kd (Int × List Int) := i64.prod (Kd.sl 5 u8)
theorem wr_at {w : World} {F : List Nat} {x : Int × List Int} {ad : Addr} {cs : List Value} (h : Plc kW w F x ad cs) : ∃ vd Fd, u8.R w Fd vd x.2 ∧ (∀ k, k ∈ Fd → k ∈ F) ∧ ∀ m u, [Value.int .i64 x.1, vd][m]? = some u → w.cell? (ad.add m) = some u := by
  obtain ⟨Fi, hF, ⟨F1, F2, c1, c2, rfl, rfl, ⟨rfl, rfl⟩, vd, rfl, hR⟩, hc⟩ := h
  exact ⟨vd, F2, hR, fun k hk => hF k (by simp [hk]), hc⟩
/-- The marks of writes; how many. -/
def mkW : Int → List (Int × List Int) → List (Int × List Int)
  | _, [] => []
  | k, x :: xs => (k, marks (k + 1) x.2.length) :: mkW (k + 1 + x.2.length) xs
def szW : List (Int × List Int) → Nat
  | [] => 0
  | x :: xs => 1 + x.2.length + szW xs
/-- A disk that is the call's own and new. -/
def NewD (w w' : World) (r : Value) (D : List Int × List (Int × List Int)) : Prop := ∃ v u F G, r = .agg #[v, u] ∧ u8.W 5 w' F v D.1 ∧ kW.W 100 w' G u D.2 ∧ F.Nodup ∧ G.Nodup ∧ (∀ k, k ∈ F → k ∉ G) ∧ (∀ k, k ∈ F → w.heap.size ≤ k) ∧ (∀ k, k ∈ G → w.heap.size ≤ k)
/-- The empty disk of so many blocks. -/
def zer (b : Int) : List Int := if 1 ≤ b ∧ b ≤ 1200 then List.replicate (64 * b).toNat 0 else []
theorem impl_NewDisk {w : World} {b : Int} : Ret Tryz.prog 17 #[.int .i64 b] w (fun r w' => NewD w w' r (zer b, []) ∧ Ch [] w w') := by
  refine enter Tryz.func17 rfl Tryz.ntmps17 (by rfl) (by rfl) ?_
  refine sq (rg (al ti33 ?_))
  intro g2 wg2 eg2 sg2 bg2 cg2
  have qg2 := le_new (Ch.refl [] w).size eg2
  have hcg2 : Ch [] w wg2 := (Ch.refl [] w).t cg2
  replace bg2 : B wg2 g2 33 ([.slice none 0 0, .slice none 0 0]) := bg2
  refine re (sq (sq (rg (r (mv rfl) (r (bi rfl rfl rfl) (r (mv rfl) ?_))))))
  refine sp 5 rfl (fun h1 => ?_) (fun h1 => ?_)
  · refine gn rfl rfl rfl (gn rfl rfl rfl (r (pk rfl rfl) (re (ct rfl (sq (rg (r (bd (r := [.slice none 0 0, .slice none 0 0]) ti33 pl33 pn rfl) (st ti33 rfl rfl bg2 rfl (Nat.le_of_ble_eq_true rfl) (one_all rfl) ?_))))))))
    intro wS1g2 sS1g2 bg2 cS1g2
    have hcS1g2 : Ch [] w wS1g2 := hcg2.own cS1g2 qg2
    replace bg2 : B wS1g2 g2 33 ([.slice none 0 0, .slice none 0 0]) := bg2
    refine re (rt ?_)
    rw [show zer b = [] from if_neg (by omega)]
    exact finc  (cs := [.slice none 0 0, .slice none 0 0]) Tryz.results17 Tryz.underlying33 rfl ti33 rfl bg2 rfl  ⟨⟨_, _, [], [], rfl, Kd.nil_W _ _ _, Kd.nil_W _ _ _, List.nodup_nil, List.nodup_nil, by simp, by simp, by simp⟩, hcS1g2⟩
  · refine gy rfl rfl rfl (r (mv rfl) (gy rfl rfl rfl (r (bi rfl rfl rfl) (r (pk rfl rfl) (re ?_)))))
    refine cp rfl (fun h2 => ?_) (fun h2 => ?_)
    · refine sq (rg (r (bd (r := [.slice none 0 0, .slice none 0 0]) ti33 pl33 pn rfl) (st ti33 rfl rfl bg2 rfl (Nat.le_of_ble_eq_true rfl) (one_all rfl) ?_)))
      intro wS1g2 sS1g2 bg2 cS1g2
      have hcS1g2 : Ch [] w wS1g2 := hcg2.own cS1g2 qg2
      replace bg2 : B wS1g2 g2 33 ([.slice none 0 0, .slice none 0 0]) := bg2
      refine re (rt ?_)
      rw [show zer b = [] from if_neg (by omega)]
      exact finc  (cs := [.slice none 0 0, .slice none 0 0]) Tryz.results17 Tryz.underlying33 rfl ti33 rfl bg2 rfl  ⟨⟨_, _, [], [], rfl, Kd.nil_W _ _ _, Kd.nil_W _ _ _, List.nodup_nil, List.nodup_nil, by simp, by simp, by simp⟩, hcS1g2⟩
    · obtain ⟨m, hm⟩ : ∃ m : Nat, b * 64 = (m : Int) := ⟨(b * 64).toNat, by omega⟩
      have hz : zer b = List.replicate m 0 := by rw [zer, if_pos (by omega)]; congr 1; omega
      refine sk (sq (rg (r (mv rfl) (r (ml ((m : Int)) rfl rfl (by omega)) (mk (dk := u8) (m := m) 0 Tryz.underlying22 ti5 (fun _ => ⟨rfl, rfl⟩) rfl rfl (by omega) ?_)))))
      intro v1 w1 F1 W1 n1 f1 c1
      have d1_g2 := old_d f1 bg2.lt
      replace f1 := low_t hcg2 f1
      replace bg2 := c1.b0 bg2
      have hc1 : Ch [] w w1 := hcg2.t c1
      refine r (bd (r := [v1, .slice none 0 0]) ti33 pl33 (pc rfl (cel1 (W1.R).oneCell) pn) rfl) (st ti33 rfl rfl bg2 rfl (Nat.le_of_ble_eq_true rfl) (oc (W1.R).oneCell (oc rfl on)) ?_)
      intro wS4g2 sS4g2 bg2 cS4g2
      replace W1 := W1.tt cS4g2 d1_g2
      have hcS4g2 : Ch [] w wS4g2 := hc1.own cS4g2 qg2
      replace bg2 : B wS4g2 g2 33 ([v1, .slice none 0 0]) := bg2
      refine re (rt ?_)
      rw [hz]
      exact finc  (cs := [v1, .slice none 0 0]) Tryz.results17 Tryz.underlying33 rfl ti33 rfl bg2 rfl  ⟨⟨_, _, F1, [], rfl, W1, Kd.nil_W _ _ _, n1, List.nodup_nil, by simp, f1, by simp⟩, hcS4g2⟩
end Go.Proofs.YtanfhikfeabidaaGreatDoor

namespace Go.Proofs.YtanfhikfeabidaaGreatDoor
open Go Go.Eng
set_option maxRecDepth 100000
set_option maxHeartbeats 4000000
set_option linter.unusedVariables false
end Go.Proofs.YtanfhikfeabidaaGreatDoor

namespace Go.Proofs.YtanfhikfeabidaaGreatDoor
open Go Go.Eng
set_option maxRecDepth 100000
set_option maxHeartbeats 4000000
set_option linter.unusedVariables false
/-- An entry of a table: the address, whether it is an inode's. -/
abbrev kE : Kd (Int × Bool) := i64.prod Kd.bool
theorem en_at {w : World} {F : List Nat} {x : Int × Bool} {ad : Addr} {cs : List Value} (h : Plc kE w F x ad cs) : ∀ m u, [Value.int .i64 x.1, Value.bool x.2][m]? = some u → w.cell? (ad.add m) = some u := by
  obtain ⟨Fi, hF, ⟨F1, F2, c1, c2, rfl, rfl, ⟨rfl, rfl⟩, ⟨rfl, rfl⟩⟩, hc⟩ := h
  exact hc
end Go.Proofs.YtanfhikfeabidaaGreatDoor

namespace Go.Proofs.YtanfhikfeabidaaGreatDoor
open Go Go.Eng
set_option maxRecDepth 100000
set_option maxHeartbeats 4000000
set_option linter.unusedVariables false
abbrev ent (x : Int × Bool) : Prop := 0 ≤ x.1 ∧ x.1 ≤ 32767 ∧ (0 < x.1 ∨ x.2 = false)
/-- An entry as a number. -/
def entV (x : Int × Bool) : Int := if x.2 = true then x.1 + 32768 else x.1
def tabB (xs : List (Int × Bool)) : List Int := xs.flatMap (fun x => big (entV x) 2)
def encTable (xs : List (Int × Bool)) : List Int := if xs.length ≤ 1024 ∧ ∀ x, x ∈ xs → ent x then tabB xs else []
theorem tabB_len (xs : List (Int × Bool)) : (tabB xs).length = 2 * xs.length := by
  induction xs with
  | nil => rfl
  | cons x xs ih => simp only [tabB, List.flatMap_cons, List.length_append, big_len, List.length_cons] at ih ⊢; omega
theorem all_take {xs : List (Int × Bool)} {k : Nat} (hk : k < xs.length) (h : ∀ x, x ∈ xs.take k → ent x) (h' : ent xs[k]) : ∀ x, x ∈ xs.take (k + 1) → ent x := by
  rw [List.take_succ_eq_append_getElem hk]
  intro x hx
  rcases List.mem_append.1 hx with hx | hx
  · exact h x hx
  · rw [List.mem_singleton.1 hx]; exact h'
theorem Entry_valid {w : World} {x : Int × Bool} : Ret Tryz.prog 67 #[.agg #[.int .i64 x.1, .bool x.2]] w (fun r w' => r = .bool (decide (ent x)) ∧ Ch [] w w') := by
  refine enter Tryz.func67 rfl Tryz.ntmps67 (by rfl) (by rfl) ?_
  refine sq (rg (bx rfl ?_))
  intro g1 wg1 eg1 sg1 bg1 cg1
  have qg1 := le_new (Ch.refl [] w).size eg1
  have hcg1 : Ch [] w wg1 := (Ch.refl [] w).t cg1
  replace bg1 : B wg1 g1 115 ([.int .i64 x.1, .bool x.2]) := bg1
  refine r (sa rfl) (re (sq (rg (r (fa Tryz.underlying115 rfl ti2 rfl rfl) (r (ldb Tryz.underlying2 rfl rfl bg1 rfl) (r (bi rfl rfl rfl) (r (mv rfl) ?_)))))))
  refine sp 6 rfl (fun h0 => ?_) (fun h0 => ?_)
  · refine gy rfl rfl rfl (r (fa Tryz.underlying115 rfl ti2 rfl rfl) (gy rfl rfl rfl (r (ldb Tryz.underlying2 rfl rfl bg1 rfl) (gy rfl rfl rfl (r (bi rfl rfl rfl) (r (pk rfl rfl) (r (mv rfl) ?_)))))))
    refine sp 11 rfl (fun h1 => ?_) (fun h1 => ?_)
    · refine gy rfl rfl rfl (r (fa Tryz.underlying115 rfl ti2 rfl rfl) (gy rfl rfl rfl (r (ldb Tryz.underlying2 rfl rfl bg1 rfl) (gy rfl rfl rfl (r (bi rfl rfl rfl) (gy rfl rfl rfl (r (mv rfl) ?_)))))))
      refine sp 15 rfl (fun h2 => ?_) (fun h2 => ?_)
      · refine gn rfl rfl rfl (gn rfl rfl rfl (gn rfl rfl rfl (gy rfl rfl rfl (r (pk rfl rfl) (r (pk rfl rfl) (r (sa rfl) (re (rt ?_))))))))
        exact fin1 (v := .bool true) Tryz.results67 rfl ⟨congrArg Value.bool (by rw [Bool.eq_iff_iff, decide_eq_true_iff]; cases hb : x.2 <;> simp [ent, hb] <;> omega), hcg1⟩
      · refine gy rfl rfl rfl (r (fa Tryz.underlying115 rfl ti4 rfl rfl) (gy rfl rfl rfl (r (ldb Tryz.underlying4 rfl rfl bg1 rfl) (gy rfl rfl rfl (r (nt rfl) (gy rfl rfl rfl (r (pk rfl rfl) (r (pk rfl rfl) (r (sa rfl) (re (rt ?_)))))))))))
        exact fin1 (v := .bool (!x.2)) Tryz.results67 rfl ⟨congrArg Value.bool (by rw [Bool.eq_iff_iff, decide_eq_true_iff]; cases hb : x.2 <;> simp [ent, hb] <;> omega), hcg1⟩
    · refine gn rfl rfl rfl (gn rfl rfl rfl (gn rfl rfl rfl (gn rfl rfl rfl (gu rfl rfl rfl (gu rfl rfl rfl (gu rfl rfl rfl (gn rfl rfl rfl (r (pk rfl rfl) (r (sa rfl) (re (rt ?_)))))))))))
      exact fin1 (v := .bool false) Tryz.results67 rfl ⟨congrArg Value.bool (by rw [Bool.eq_iff_iff, decide_eq_true_iff]; cases hb : x.2 <;> simp [ent, hb] <;> omega), hcg1⟩
  · refine gn rfl rfl rfl (gn rfl rfl rfl (gn rfl rfl rfl (r (pk rfl rfl) (r (mv rfl) (gn rfl rfl rfl (gn rfl rfl rfl (gn rfl rfl rfl (gn rfl rfl rfl (gu rfl rfl rfl (gu rfl rfl rfl (gu rfl rfl rfl (gn rfl rfl rfl (r (pk rfl rfl) (r (sa rfl) (re (rt ?_))))))))))))))))
    exact fin1 (v := .bool false) Tryz.results67 rfl ⟨congrArg Value.bool (by rw [Bool.eq_iff_iff, decide_eq_true_iff]; cases hb : x.2 <;> simp [ent, hb] <;> omega), hcg1⟩
def nums (xs : List (Int × Bool)) : List (Int × Int) := xs.map (fun x => (2, entV x))
theorem nums_succ {xs : List (Int × Bool)} {k : Nat} (hk : k < xs.length) : nums (xs.take (k + 1)) = nums (xs.take k) ++ [(2, entV xs[k])] := by
  rw [List.take_succ_eq_append_getElem hk]; simp only [nums, List.map_append, List.map_cons, List.map_nil]
theorem flat_nums (xs : List (Int × Bool)) : flat (nums xs) = tabB xs := by
  induction xs with
  | nil => rfl
  | cons x xs ih => simp only [flat, nums, tabB, List.map_cons, List.flatMap_cons] at ih ⊢; rw [ih]; rfl
theorem nums_ok {xs : List (Int × Bool)} (h : ∀ x, x ∈ xs → ent x) : ∀ y, y ∈ nums xs → 0 ≤ y.1 ∧ y.1 ≤ 100 ∧ 0 ≤ y.2 ∧ y.2 ≤ 9223372036854775807 := by
  intro y hy
  obtain ⟨x, hx, rfl⟩ := List.mem_map.1 hy
  obtain ⟨h1, h2, _⟩ := h x hx
  have : 0 ≤ entV x ∧ entV x ≤ 65535 := by unfold entV; split <;> omega
  exact ⟨by show (0 : Int) ≤ 2; decide, by show (2 : Int) ≤ 100; decide, this.1, by show entV x ≤ _; omega⟩
theorem encTable_len (xs : List (Int × Bool)) : (encTable xs).length ≤ 2048 := by
  unfold encTable; split
  · rename_i h; rw [tabB_len]; omega
  · simp
theorem impl_EncodeTable {w : World} {F : List Nat} {v : Value} {xs : List (Int × Bool)} (hx : kE.R w F v xs) (lx : xs.length ≤ 1000000000) :
    Ret Tryz.prog 135 #[v] w (fun r w' => New u8 5 w w' r (encTable xs) ∧ Ch [] w w') := by
  refine enter Tryz.func135 rfl Tryz.ntmps135 (by rfl) (by rfl) ?_
  refine sq (rg (r (sa rfl) (re (sq (sq (rg (r (mv rfl) (r (ln Tryz.underlying58 rfl ((hx.t (Ch.refl [] w)))) (r (bi rfl rfl rfl) (re ?_))))))))))
  refine cp rfl (fun h => ?_) (fun h => ?_)
  · rw [show encTable xs = [] from if_neg (fun e => by omega)]
    refine sq (rg (r (sa rfl) (re (rt ?_))))
    exact fin1 (v := .slice none 0 0) Tryz.results135 rfl ⟨⟨[], Kd.nil_W _ _ _, List.nodup_nil, by simp⟩, (Ch.refl [] w)⟩
  · refine sk (sq (rg (r (sa rfl) (re (sq (sq (rg (r (mv rfl) (r (ln Tryz.underlying58 rfl ((hx.t (Ch.refl [] w)))) (r (mv rfl) (re (bl ?_))))))))))))
    have W1 := Kd.nil_W knum 103 w
    have n1 : ([] : List Nat).Nodup := List.nodup_nil
    have f1 : ∀ k, k ∈ ([] : List Nat) → w.heap.size ≤ k := by simp
    refine lp (α := Nat × List Nat × Value) (fun (k, F1, o) ρ w' => ρ 10 = v ∧ ρ 11 = .int .i64 (xs.length : Int) ∧ ρ 12 = .int .i64 (k : Int) ∧ ρ 3 = o ∧ Ch [] w w' ∧ Kd.W knum 103 w' F1 o (nums (xs.take k)) ∧ F1.Nodup ∧ (∀ k, k ∈ F1 → w.heap.size ≤ k) ∧ k ≤ xs.length ∧ ∀ x, x ∈ xs.take k → ent x) (fun (k, F1, o) => xs.length - k) (0, [], .slice none 0 0) ?_ ?_
    · exact ⟨rfl, rfl, rfl, rfl, (Ch.refl [] w), W1, n1, f1, ⟨by omega, by simp⟩⟩
    rintro ⟨k, F1, o⟩ ρ w' ⟨y10, y11, y12, y3, hc, W1, n1, f1, ⟨hk, hok⟩⟩
    refine sq (rg (r (bi y12 y11 rfl) (re (sq ?_))))
    refine cp rfl (fun hlt => ?_) (fun hlt => ?_)
    · have hk' : k < xs.length := by omega
      have hl : (nums (xs.take k)).length ≤ 1024 := by simp [nums]; omega
      have hs := nums_succ hk'
      refine sk (sq (bl (sq (rg ?_))))
      obtain ⟨c14, ad14, k14, e14, p14⟩ := (hx).place k (by omega)
      have q14 := en_at p14
      refine r (ix Tryz.underlying58 ti115 (y10.trans e14) y12 (by omega)) (r (la [.int .i64 ((xs[k]).1), .bool ((xs[k]).2)] Tryz.underlying115 rfl ti115 rfl rfl (fun m u h => Ch.cell hc (q14 m u h))) (al ti115 ?_))
      intro g5 wg5 eg5 sg5 bg5 cg5
      have d1_g5 := fresh_d W1.lt eg5
      have qg5 := le_new hc.size eg5
      replace W1 := W1.t cg5
      have hcg5 : Ch [] w wg5 := hc.t cg5
      replace bg5 : B wg5 g5 115 ([.int .i64 0, .bool false]) := bg5
      refine st ti115 rfl rfl bg5 rfl (Nat.le_of_ble_eq_true rfl) (one_all rfl) ?_
      intro wS3g5 sS3g5 bg5 cS3g5
      replace W1 := W1.tt cS3g5 d1_g5
      have hcS3g5 : Ch [] w wS3g5 := hcg5.own cS3g5 qg5
      replace bg5 : B wS3g5 g5 115 ([.int .i64 ((xs[k]).1), .bool ((xs[k]).2)]) := bg5
      refine re (sq (sq (rg (r (lab [.int .i64 ((xs[k]).1), .bool ((xs[k]).2)] Tryz.underlying115 rfl ti115 rfl bg5 rfl rfl) (cl go67 (Entry_valid (x := xs[k])) (ac rfl an) ?_)))))
      rintro r wve ⟨rfl, cve⟩
      replace bg5 := cve.b0 bg5
      replace W1 := W1.t cve
      have hcve : Ch [] w wve := hcS3g5.t cve
      refine r (nt rfl) (re ?_)
      refine cpn rfl (fun hv => ?_) (fun hv => ?_)
      · rw [show encTable xs = [] from if_neg (fun e => hv (e.2 _ (List.getElem_mem hk')))]
        refine sq (rg (r (sa rfl) (re (rt ?_))))
        exact fin1 (v := .slice none 0 0) Tryz.results135 rfl ⟨⟨[], Kd.nil_W _ _ _, List.nodup_nil, by simp⟩, hcve⟩
      · have hok' := all_take hk' hok hv
        obtain ⟨hv1, hv2, hv3⟩ := hv
        refine sk (sq (rg (r (fa Tryz.underlying115 rfl ti2 rfl rfl) (r (ldb Tryz.underlying2 rfl rfl bg5 rfl) (r (sa rfl) (re (sq (sq ?_))))))))
        refine gen (fun ρ => ρ 3 = o ∧ ρ 5 = .pointer (some ⟨g5, 0, none⟩) ∧ ρ 6 = .int .i64 ((xs[k]).1) ∧ ρ 10 = v ∧ ρ 11 = .int .i64 (xs.length : Int) ∧ ρ 12 = .int .i64 (k : Int) ∧ True) ⟨y3, rfl, rfl, y10, y11, y12, trivial⟩ ?_
        rintro ρ ⟨z3, z5, z6, z10, z11, z12, -⟩
        refine rg (r (fa Tryz.underlying115 rfl ti4 rfl z5) (r (ldb Tryz.underlying4 rfl rfl bg5 rfl) (re ?_)))
        refine cd rfl (fun hi => ?_) (fun hi => ?_)
        · rw [show entV xs[k] = xs[k].1 + 32768 from if_pos hi] at hs
          refine rg (r (mv z6) (r (ad (((xs[k]).1) + 32768) rfl rfl (by omega)) (r (sa rfl) (re (rg (r (mv z3) (r (mv rfl) (r (bd (r := [.int .i64 2, .int .i64 (((xs[k]).1) + 32768)]) ti103 pl103 (pc rfl (cel1 rfl) (pc rfl (cel1 rfl) pn)) rfl) (ap1 Tryz.underlying145 ti103 rfl (fun _ => rfl) rfl W1 (show Kd.O knum _ [] (2, ((xs[k]).1) + 32768) _ from ⟨rfl, rfl⟩) (nodup_nil n1) (by omega) rfl ?_)))))))))
          intro _ v29 w29 F29 A29
          have hA29 := A29.hc W1 hcve f1
          have tb := A29.blk W1 d1_g5 bg5
          replace d1_g5 := A29.dis d1_g5 bg5.lt
          replace bg5 := tb
          clear tb
          replace f1 := A29.low hcve f1
          replace n1 := A29.nd
          replace W1 := A29.W
          refine r (sa rfl) (re (be ?_))
          refine gen (fun ρ => ρ 3 = v29 ∧ ρ 10 = v ∧ ρ 11 = .int .i64 (xs.length : Int) ∧ ρ 12 = .int .i64 (k : Int) ∧ True) ⟨rfl, z10, z11, z12, trivial⟩ ?_
          rintro ρ ⟨z3, z10, z11, z12, -⟩
          refine rg (r (ad ((k : Int) + 1) z12 rfl (by omega)) (r (mv rfl) (re ?_)))
          rw [← hs] at W1
          exact ag (k + 1, F29, v29) ⟨z10, z11, rfl, z3, hA29, W1, n1, f1, ⟨by omega, hok'⟩⟩ (by first | omega | (dsimp only; omega))
        · rw [show entV xs[k] = xs[k].1 from if_neg (by simp [hi])] at hs
          refine sk (rg (r (mv z3) (r (mv z6) (r (bd (r := [.int .i64 2, .int .i64 ((xs[k]).1)]) ti103 pl103 (pc rfl (cel1 rfl) (pc rfl (cel1 rfl) pn)) rfl) (ap1 Tryz.underlying145 ti103 rfl (fun _ => rfl) rfl W1 (show Kd.O knum _ [] (2, (xs[k]).1) _ from ⟨rfl, rfl⟩) (nodup_nil n1) (by omega) rfl ?_)))))
          intro _ v29 w29 F29 A29
          have hA29 := A29.hc W1 hcve f1
          have tb := A29.blk W1 d1_g5 bg5
          replace d1_g5 := A29.dis d1_g5 bg5.lt
          replace bg5 := tb
          clear tb
          replace f1 := A29.low hcve f1
          replace n1 := A29.nd
          replace W1 := A29.W
          refine r (sa rfl) (re (be (rg (r (ad ((k : Int) + 1) z12 rfl (by omega)) (r (mv rfl) (re ?_))))))
          rw [← hs] at W1
          exact ag (k + 1, F29, v29) ⟨z10, z11, rfl, rfl, hA29, W1, n1, f1, ⟨by omega, hok'⟩⟩ (by first | omega | (dsimp only; omega))
    · obtain rfl : k = xs.length := by omega
      rw [List.take_length] at W1 hok
      rw [show encTable xs = tabB xs from if_pos ⟨by omega, hok⟩]
      refine ex rfl (sq (rg (r (mv y3) (cl go36 (bytesOf W1.R (by simp [nums]; omega) (nums_ok hok)) (ac rfl an) ?_))))
      rintro r2 wb ⟨⟨F2, W2, n2, f2⟩, cb⟩
      rw [flat_nums] at W2
      have x1_2 := x_new W1.lt f2
      replace f2 := low_t hc f2
      replace W1 := W1.t cb
      have hcb : Ch [] w wb := hc.t cb
      refine r (sa rfl) (re (rt ?_))
      exact fin1 (v := r2) Tryz.results135 rfl ⟨⟨F2, W2, n2, f2⟩, hcb⟩
end Go.Proofs.YtanfhikfeabidaaGreatDoor

namespace Go.Proofs.YtanfhikfeabidaaGreatDoor
open Go Go.Eng
set_option maxRecDepth 100000
set_option maxHeartbeats 4000000
set_option linter.unusedVariables false
end Go.Proofs.YtanfhikfeabidaaGreatDoor
