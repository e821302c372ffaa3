/-
  THE ENGINE IN A ROUND, OF MY OWN: the engine's laws (XEng) over the walk in a wide fence, in a plain frame or in the frame of a round (a range over a function). Over any program. No condition.
-/
import Derived.Test.YtgpcanjmgdmdhaaMap
import Derived.RangeFuncNested
import Derived.RangeFuncLeaves
import Derived.RangeFuncCalls
import Derived.TacticsInMore
import Derived.LoopIn
namespace Go.EngI
open Go.Eng Go.RowKit
set_option linter.unusedVariables false
set_option linter.unusedSimpArgs false
/-- Every function, every depth; the round. -/
def Wd (ro : Option Nat) : Fence := { fn := fun _ => True, depth := none, alive := false, round := ro }
theorem wd_wide : Wd none = Fence.wide := rfl
theorem wd_round (l : Nat) : Fence.wide.inRound l = Wd (some l) := rfl
section
variable (P : Program) (ro : Option Nat) (m : Nat)
def den (Qf : Exit → Act → World → Prop) : List It → Exit → Act → World → Prop
  | [] => Qf
  | .c y :: k => Exit.then (y.wpIn (Wd ro) m P (den Qf k)) (den Qf k)
  | .b id :: k => Exit.inBlock id (den Qf k)
  | .l J :: k => Exit.then J (den Qf k)
def S (n : Nat) (k : List It) (Qf : Exit → Act → World → Prop) (ρ : Fr) (ds : List Deferred) (w : World) : Prop :=
  okk n k = true → ∀ a, Sim n ρ ds a → den P ro m Qf k .normal a w
def L (n : Nat) (ops : Array Oper) (rest : List Oper) (k : List It) (Qf : Exit → Act → World → Prop) (ρ : Fr) (ds : List Deferred) (w : World) : Prop :=
  okl n rest = true → okk n k = true → ∀ a, Sim n ρ ds a → wpListIn (Wd ro) m P ops (den P ro m Qf k) rest a w
end
section
variable {P : Program} {ro : Option Nat} {m n : Nat} {k : List It} {Qf : Exit → Act → World → Prop} {ρ : Fr} {ds : List Deferred} {w : World}
theorem sq {x y : Code} (h : S P ro m n (.c x :: .c y :: k) Qf ρ ds w) : S P ro m n (.c (.seq x y) :: k) Qf ρ ds w := by
  intro hk a ha
  simp only [okk, okc, Bool.and_eq_true] at hk
  exact wpIn_seq (h (by simp [okk, hk]) a ha)
theorem sk (h : S P ro m n k Qf ρ ds w) : S P ro m n (.c .skip :: k) Qf ρ ds w := fun hk a ha => wpIn_skip (h (by simpa [okk, okc] using hk) a ha)
theorem bl {id : Nat} {c : Code} (h : S P ro m n (.c c :: .b id :: k) Qf ρ ds w) : S P ro m n (.c (.block id c) :: k) Qf ρ ds w :=
  fun hk a ha => wpIn_block (h (by simpa [okk, okc] using hk) a ha)
theorem be {id : Nat} (h : S P ro m n k Qf ρ ds w) : S P ro m n (.b id :: k) Qf ρ ds w := fun hk a ha => h (by simpa [okk] using hk) a ha
theorem den_exit {id : Nat} {k k' : List It} (h : dropTo id k = some k') (a : Act) (w : World) (hd : den P ro m Qf k' .normal a w) : den P ro m Qf k (.exit id) a w := by
  induction k with
  | nil => cases h
  | cons x k ih =>
    cases x with
    | c y => exact ih h
    | l J => exact ih h
    | b i =>
      simp only [dropTo] at h
      simp only [den, Exit.inBlock]
      split at h
      · rename_i e; injection h with h; subst h; rw [if_pos e]; exact hd
      · rename_i e; rw [if_neg e]; exact ih h
theorem ex {id : Nat} {k' : List It} (hd : dropTo id k = some k') (h : S P ro m n k' Qf ρ ds w) : S P ro m n (.c (.exit id) :: k) Qf ρ ds w :=
  fun hk a ha => wpIn_exit (den_exit hd a w (h (okk_dropTo hd (by simpa [okk, okc] using hk)) a ha))
theorem den_ret (k : List It) (a : Act) (w : World) (h : Qf .ret a w) : den P ro m Qf k .ret a w := by
  induction k with
  | nil => exact h
  | cons x k ih => cases x <;> exact ih
theorem cd {c : Operand} {x y : Code} {t : Bool} (hc : ev ρ c = .bool t) (ht : t = true → S P ro m n (.c x :: k) Qf ρ ds w) (hf : t = false → S P ro m n (.c y :: k) Qf ρ ds w) :
    S P ro m n (.c (.cond c x y) :: k) Qf ρ ds w := by
  intro hk a ha
  simp only [okk, okc, Bool.and_eq_true] at hk
  refine wpIn_cond_split (t := t) (by rw [ha.eval]; exact hc) (fun e => ht e (by simp [okk, hk]) a ha) (fun e => hf e (by simp [okk, hk]) a ha)
theorem ct {c : Operand} {x y : Code} (hc : ev ρ c = .bool true) (h : S P ro m n (.c x :: k) Qf ρ ds w) : S P ro m n (.c (.cond c x y) :: k) Qf ρ ds w := cd hc (fun _ => h) (fun e => by cases e)
theorem cf {c : Operand} {x y : Code} (hc : ev ρ c = .bool false) (h : S P ro m n (.c y :: k) Qf ρ ds w) : S P ro m n (.c (.cond c x y) :: k) Qf ρ ds w := cd hc (fun e => by cases e) (fun _ => h)
theorem cp {c : Operand} {x y : Code} {p : Prop} [Decidable p] (hc : ev ρ c = .bool (decide p)) (ht : p → S P ro m n (.c x :: k) Qf ρ ds w) (hf : ¬ p → S P ro m n (.c y :: k) Qf ρ ds w) :
    S P ro m n (.c (.cond c x y) :: k) Qf ρ ds w := cd hc (fun e => ht (of_decide_eq_true e)) (fun e => hf (of_decide_eq_false e))
theorem cpn {c : Operand} {x y : Code} {p : Prop} [Decidable p] (hc : ev ρ c = .bool (!decide p)) (ht : ¬ p → S P ro m n (.c x :: k) Qf ρ ds w) (hf : p → S P ro m n (.c y :: k) Qf ρ ds w) :
    S P ro m n (.c (.cond c x y) :: k) Qf ρ ds w := cd hc (fun e => ht (by simpa using e)) (fun e => hf (by simpa using e))
theorem gen (I : Fr → Prop) (h0 : I ρ) (h : ∀ ρ', I ρ' → S P ro m n k Qf ρ' ds w) : S P ro m n k Qf ρ ds w := h ρ h0
theorem rg {id : Nat} {l : List Oper} (h : L P ro m n l.toArray l k Qf ρ ds w) : S P ro m n (.c (.region id l.toArray false) :: k) Qf ρ ds w := by
  intro hk a ha
  simp only [okk, okc, Bool.and_eq_true] at hk
  exact wpIn_region_lit (h (by simpa using hk.1) hk.2 a ha)
theorem re {ops : Array Oper} (h : S P ro m n k Qf ρ ds w) : L P ro m n ops [] k Qf ρ ds w := fun _ hk a ha => wpListIn_nil (h hk a ha)
theorem lp {α : Type} {c : Code} (I : α → Fr → World → Prop) (μ : α → Nat) (x0 : α) (h0 : I x0 ρ w)
    (body : ∀ x ρ' w', I x ρ' w' → S P ro m n (.c c :: .l (Again n ds I μ (μ x)) :: k) Qf ρ' ds w') : S P ro m n (.c (.loop c) :: k) Qf ρ ds w := by
  intro hk a ha
  simp only [okk, okc, Bool.and_eq_true] at hk
  let st : Act → World → Nat → Prop := fun a w m => ∃ x ρ, Sim n ρ ds a ∧ I x ρ w ∧ μ x = m
  let mu : Act → World → Nat := fun a w => open Classical in if h : ∃ m, st a w m then (least h).choose else 0
  refine wpIn_loop (fun a w => ∃ x ρ, Sim n ρ ds a ∧ I x ρ w) mu ⟨x0, ρ, ha, h0⟩ ?_
  rintro a w ⟨x, ρ', hs, hI⟩
  have hex : ∃ m, st a w m := ⟨_, x, ρ', hs, hI, rfl⟩
  have hmu : mu a w = (least hex).choose := dif_pos hex
  obtain ⟨⟨x1, ρ1, hs1, hI1, hm1⟩, hle⟩ := (least hex).choose_spec
  have hb := body x1 ρ1 w hI1 (by simp [okk, hk]) a hs1
  refine wpIn_mono hb (fun e a' w' he => ?_)
  cases e with
  | normal =>
    obtain ⟨y, ρ2, hs2, hI2, hlt⟩ := he
    refine ⟨⟨y, ρ2, hs2, hI2⟩, ?_⟩
    have hex' : ∃ m, st a' w' m := ⟨_, y, ρ2, hs2, hI2, rfl⟩
    have hmu' : mu a' w' = (least hex').choose := dif_pos hex'
    rw [hmu, hmu', ← hm1]
    exact Nat.lt_of_le_of_lt ((least hex').choose_spec.2 _ ⟨y, ρ2, hs2, hI2, rfl⟩) hlt
  | exit id => exact he
  | goto l => exact he
  | ret => exact he
  | panic ch => exact he
  | outgrown => exact he
theorem ag {α : Type} {I : α → Fr → World → Prop} {μ : α → Nat} {j : Nat} (y : α) (hI : I y ρ w) (hm : μ y < j) : S P ro m n (.l (Again n ds I μ j) :: k) Qf ρ ds w :=
  fun _ a ha => ⟨y, ρ, ha, hI, hm⟩
variable {ops : Array Oper} {rest : List Oper}
theorem semAt_run {o : Oper} {ρ : Operand → Value} {v : Next} {w' : World} (ho : ∀ c, o.op ≠ .defer c) (h : (execOp ρ o).run P w = .ok v w') : (o.semAt (Wd ro).round ρ).run P w = .ok v w' := by
  rw [Oper.semAt_eq _ _ _ ho]; exact h
theorem opv {o : Oper} {v : Value} {w' : World} (ho : ∀ c, o.op ≠ .defer c) (hg : o.guard = none) (hrun : (execOp (ev ρ) o).run P w = .ok (.value v) w') (h : L P ro m n ops rest k Qf (updo ρ o.dst v) ds w') : L P ro m n ops (o :: rest) k Qf ρ ds w := by
  intro hl hk a ha
  simp only [okl, Bool.and_eq_true] at hl
  refine wpListIn_plain hg fun K hK => ?_
  unfold Oper.wpIn
  refine ⟨fun _ _ => trivial, ?_⟩
  rw [ha.eval, semAt_run ho hrun]
  exact hK _ _ (h hl.2 hk _ (ha.put o.dst hl.1 v))
theorem ops_ {o : Oper} {w' : World} (ho : ∀ c, o.op ≠ .defer c) (hg : o.guard = none) (hrun : (execOp (ev ρ) o).run P w = .ok .skip w') (h : L P ro m n ops rest k Qf (updo ρ o.dst undef) ds w') : L P ro m n ops (o :: rest) k Qf ρ ds w := by
  intro hl hk a ha
  simp only [okl, Bool.and_eq_true] at hl
  refine wpListIn_plain hg fun K hK => ?_
  unfold Oper.wpIn
  refine ⟨fun _ _ => trivial, ?_⟩
  rw [ha.eval, semAt_run ho hrun]
  exact hK _ _ (h hl.2 hk _ (ha.put o.dst hl.1 undef))
theorem nodefer {o : Oper} {x : Next} {w' : World} {ρ : Operand → Value} (hx : ∀ d, x ≠ .defer d) (h : (execOp ρ o).run P w = .ok x w') : ∀ c, o.op ≠ .defer c := by
  intro c e
  simp only [execOp, e] at h
  change Sem.run P (do let d ← resolve ρ c o.type; pure (Next.defer d)) w = _ at h
  rw [Sem.run_bind] at h
  generalize (resolve ρ c o.type).run P w = R at h
  cases R with
  | ok d w1 => simp [Result.andThen] at h; exact hx _ h.1.symm
  | halt y w1 => simp [Result.andThen] at h
theorem r {o : Oper} {v : Value} (hr : Rn P ρ o w v) (h : L P ro m n ops rest k Qf (updo ρ o.dst v) ds w) : L P ro m n ops (o :: rest) k Qf ρ ds w :=
  opv (nodefer (fun _ e => by cases e) (hr.2 w (Ch.refl _ _))) hr.1 (hr.2 w (Ch.refl _ _)) h
theorem ef {o : Oper} {Φ : Value → World → Prop} (h : Ex P ρ o w Φ) (hk : ∀ v w', Φ v w' → L P ro m n ops rest k Qf (updo ρ o.dst v) ds w') : L P ro m n ops (o :: rest) k Qf ρ ds w := by
  obtain ⟨hg, v, w', hr, hΦ⟩ := h
  exact opv (nodefer (fun _ e => by cases e) hr) hg hr (hk v w' hΦ)
theorem ef0 {o : Oper} {Φ : World → Prop} (h : Ex0 P ρ o w Φ) (hk : ∀ w', Φ w' → L P ro m n ops rest k Qf (updo ρ o.dst undef) ds w') : L P ro m n ops (o :: rest) k Qf ρ ds w := by
  obtain ⟨hg, w', hr, hΦ⟩ := h
  exact ops_ (nodefer (fun _ e => by cases e) hr) hg hr (hk w' hΦ)
theorem gy {d : Option Nat} {op : Op} {ty : TypeId} {pos : String} {af : Array Edge} {j t : Nat} {b : Bool} (hj : (ops[j]?).bind (·.dst) = some t) (ht : ρ t = .bool b) (hn : Nat.blt t n = true)
    (h : L P ro m n ops (⟨d, op, ty, pos, af, none⟩ :: rest) k Qf ρ ds w) : L P ro m n ops (⟨d, op, ty, pos, af, some (j, b)⟩ :: rest) k Qf ρ ds w := by
  intro hl hk a ha
  have hlt : t < a.tmps.size := by rw [ha.size]; simpa [Nat.blt_eq] using hn
  have hy : yielded ops a.tmps j = some b := by
    have h1 := ha.slot t
    rw [ht, Array.getD_eq_getD_getElem?, Array.getElem?_eq_getElem hlt] at h1
    simp only [Option.getD_some] at h1
    simp [yielded, hj, Array.getElem?_eq_getElem hlt, h1]
  have := h hl hk a ha
  simp only [wpListIn, Region.wanted, hy, beq_self_eq_true, if_true] at this ⊢
  exact this
theorem gn {d : Option Nat} {op : Op} {ty : TypeId} {pos : String} {af : Array Edge} {j t : Nat} {b : Bool} (hj : (ops[j]?).bind (·.dst) = some t) (ht : ρ t = .bool (!b)) (hn : Nat.blt t n = true)
    (h : L P ro m n ops rest k Qf (updo ρ d undef) ds w) : L P ro m n ops (⟨d, op, ty, pos, af, some (j, b)⟩ :: rest) k Qf ρ ds w := by
  intro hl hk a ha
  simp only [okl, Bool.and_eq_true] at hl
  have hlt : t < a.tmps.size := by rw [ha.size]; simpa [Nat.blt_eq] using hn
  have hy : yielded ops a.tmps j = some (!b) := by
    have h1 := ha.slot t
    rw [ht, Array.getD_eq_getD_getElem?, Array.getElem?_eq_getElem hlt] at h1
    simp only [Option.getD_some] at h1
    simp [yielded, hj, Array.getElem?_eq_getElem hlt, h1]
  have hne : ¬ Region.wanted ⟨d, op, ty, pos, af, some (j, b)⟩ (yielded ops a.tmps) = true := by cases b <;> simp [Region.wanted, hy]
  unfold wpListIn
  rw [if_neg hne]
  exact ⟨fun _ _ => trivial, h hl.2 hk _ (ha.put d hl.1 undef)⟩
theorem spf (t : Nat) {b c : Bool} (ht : ρ t = .bool b) (hb : b = c) (h : L P ro m n ops rest k Qf (upd ρ t (.bool c)) ds w) : L P ro m n ops rest k Qf ρ ds w := by
  subst hb; rwa [upd_self ρ t _ ht] at h
theorem sp (t : Nat) {p : Prop} [Decidable p] (ht : ρ t = .bool (decide p)) (hT : p → L P ro m n ops rest k Qf (upd ρ t (.bool true)) ds w) (hF : ¬ p → L P ro m n ops rest k Qf (upd ρ t (.bool false)) ds w) : L P ro m n ops rest k Qf ρ ds w := by
  by_cases h : p
  · have := hT h; rwa [upd_self ρ t _ (by rw [ht, decide_eq_true h])] at this
  · have := hF h; rwa [upd_self ρ t _ (by rw [ht, decide_eq_false h])] at this
/-- A guarded call of yield that is made. -/
theorem yld {d : Option Nat} {ty : TypeId} {pos : String} {af : Array Edge} {x : Operand} {l : Nat} {xs : Array Operand} {vs : List Value} {ts : Array TypeId} {Ψ : Ending → World → Prop} (hx : ev ρ x = .func (.yield l) #[] #[]) (hxs : xs.toList.map (ev ρ) = vs) (hY : YieldAt (Wd ro) (m - 1) P l vs.toArray w Ψ)
    (h : ∀ e w', Ψ e w' → ∃ v, e = .returned v ∧ L P ro m n ops rest k Qf (updo ρ d v) ds w') : L P ro m n ops (⟨d, .call ⟨.value x, xs, ts⟩, ty, pos, af, none⟩ :: rest) k Qf ρ ds w := by
  intro hl hk a ha
  simp only [okl, Bool.and_eq_true] at hl
  obtain ⟨fn, tmps, assign, body, hy, hR⟩ := hY
  have hrun : (execOp (ev ρ) ⟨d, .call ⟨.value x, xs, ts⟩, ty, pos, af, none⟩).run P w = .ok (.round l fn tmps assign body) w := by
    have := arr hxs
    simp [execOp, resolve, Deferred.ofValue, invoke, hx, this, hy]
  refine wpListIn_plain rfl fun K hK => ?_
  unfold Oper.wpIn
  refine ⟨fun _ _ => trivial, ?_⟩
  rw [ha.eval, semAt_run (fun c e => by cases e) hrun, Oper.uponIn_round]
  refine ⟨fun h => (by cases h), hR.mono fun e w' hΨ => ?_⟩
  obtain ⟨v, rfl, hL⟩ := h e w' hΨ
  exact hK _ _ (hL hl.2 hk _ (ha.put d hl.1 v))
theorem enterI {f : FuncId} {fn : Func} {c : Code} {args : Array Value} {R : Ending → World → Prop} (hf : P.funcs[f]? = some fn) (hb : fn.body = some c) (hn : fn.ntmps = n)
    (hok : okc n c = true) (hs : Nat.ble args.size n = true) (h : S P none m n [.c c] (bodyPost P fn R) (ini args) [] w) : CallsIn (Wd none) m P f args w R := by
  refine callsIn_of_wp hf hb trivial ?_
  have hs' : args.size ≤ n := Nat.le_of_ble_eq_true hs
  refine h (by simp [okk, hok]) _ ⟨by simp [hn]; omega, rfl, fun t => ?_⟩
  simp only [ini, Array.getD_eq_getD_getElem?, Array.getElem?_append]
  split
  · rfl
  · rename_i hlt
    rw [Array.getElem?_eq_none (Nat.le_of_not_lt hlt)]
    simp only [Array.getElem?_replicate]
    split <;> rfl
theorem rt {fn : Func} {R : Ending → World → Prop} (h : S P ro m n [] (bodyPost P fn R) ρ ds w) : S P ro m n (.c .ret :: k) (bodyPost P fn R) ρ ds w :=
  fun hk a ha => wpIn_ret (den_ret k a w (h rfl a ha))
theorem fin0 {fn : Func} {R : Ending → World → Prop} (hr : fn.results = #[]) (h : R (.returned (.tuple #[])) w) : S P ro m n [] (bodyPost P fn R) ρ [] w :=
  fun _ a ha => ⟨ha.defers, _, results_none hr _ _ _, h⟩
/-- What a round keeps: these blocks. -/
def Kept (Pr : List Nat) (A B : World) : Prop := A.heap.size ≤ B.heap.size ∧ ∀ k, k ∈ Pr → B.heap[k]? = A.heap[k]?
theorem Kept.refl (Pr : List Nat) (A : World) : Kept Pr A A := ⟨Nat.le_refl _, fun _ _ => rfl⟩
theorem Kept.trans {Pr : List Nat} {A B C : World} (h : Kept Pr A B) (h' : Kept Pr B C) : Kept Pr A C := ⟨Nat.le_trans h.1 h'.1, fun k hk => (h'.2 k hk).trans (h.2 k hk)⟩
theorem Kept.ch {Pr : List Nat} {A B : World} (c : Ch [] A B) (h : ∀ k, k ∈ Pr → k < A.heap.size) : Kept Pr A B := ⟨c.size, fun k hk => c.blk k (h k hk) (by simp)⟩
theorem abides_ch {β : Type} {b : Nat} {J : β → World → Prop} (hJ : AbidesFrom b J) {s : β} {A B : World} (h : J s A) (c : Ch [] A B) : J s B :=
  hJ s A B none h ⟨c.os, c.tape, c.output, c.size, fun k hk hn => c.blk k hk (by simp)⟩ (fun r e => by cases e)
theorem ret_in {f : FuncId} {args : Array Value} {w : World} {R : Ending → World → Prop} (h : Calls P f args w R) : CallsIn (Wd ro) m P f args w R := by
  have h' : CallsIn (Wd none) m P f args w R := callsIn_wide.2 h
  cases ro with
  | none => exact h'
  | some l => exact CallsIn.inRound l h'
theorem endq (h : ∀ a, Qf .normal a w) : S P ro m n [] Qf ρ ds w := fun _ a _ => h a
theorem retq (h : ∀ a, Qf .ret a w) : S P ro m n (.c .ret :: k) Qf ρ ds w := fun _ a _ => wpIn_ret (den_ret k a w (h a))
abbrev collD (D : Nat) : Deferred := { target := .collected D, args := #[] }
theorem rf {α : Type} {g : Operand} {p q id : Nat} {ty : TypeId} {pos : String} {body : Code} {gf : Nat} {lb : Array Value} {enc : α → Value} {Kp : World → World → Prop} {S' Sp : List α → Prop} {N : Nat}
    (hm : 1 ≤ m) (hg : ev ρ g = .func (.func gf) #[] lb) (eg : ∀ args w, (callFunc gf args).run P w = .ok (.enter gf args) w)
    (hseq : SeqStopsK (Wd none) (m - 1) P gf lb (fun x => #[enc x]) Kp S' Sp N w)
    (hKt : ∀ {A B C : World}, Kp A B → Kp B C → Kp A C) (hKb : ∀ (W : World) (l : Nat) (o o' : Obj), w.heap.size ≤ l → W.heap[l]? = some o → o.isCells = false → o.isWalk = false → Kp W (W.putObj l o'))
    (I : List α → World → Prop) (Ix : Code → List α → World → Prop) (hI : OwnFrom w.heap.size I) (hIx : ∀ c, OwnFrom w.heap.size (Ix c)) (h0 : I [] w)
    (hp : Nat.blt p n = true) (hq : Nat.blt q n = true) (hpq : p ≠ q) (hok : okc n body = true)
    (hbody : ∀ (l : Nat) (pre : List α) (x : α) (W : World), I pre W → pre.length < N → S P (some l) (m - 1 - 1) n [.c body] (ownPostK Kp I Ix (pre ++ [x]) W) (upd (upd ρ p (enc x)) q (enc x)) [] W)
    (hdone : ∀ (D : Nat) (xs : List α) (W : World), w.heap.size ≤ D → S' xs → I xs W → W.heap[D]? = some (.deferred (some [])) → S P none m n k Qf ρ [collD D] W)
    (hstop : ∀ (D : Nat) (c : Code) (pre : List α) (W : World), w.heap.size ≤ D → Sp pre → Ix c pre W → W.heap[D]? = some (.deferred (some [])) → okc n c = true ∧ S P none m n (.c c :: k) Qf ρ [collD D] W) :
    S P none m n (.c (.rangeFunc g #[p] (.region id #[⟨some q, .assign (.tmp p), ty, pos, #[], none⟩] false) body) :: k) Qf ρ [] w := by
  intro hk a ha
  have hp' : p < a.tmps.size := by rw [ha.size]; simpa [Nat.blt_eq] using hp
  have hq' : q < a.tmps.size := by rw [ha.size]; simpa [Nat.blt_eq] using hq
  have hk' : okk n k = true := by simpa [okk, okc] using hk
  have hsim : ∀ v, Sim n (upd (upd ρ p v) q v) [] { tmps := (a.tmps.setIfInBounds p v).setIfInBounds q v, defers := [] } := by
    intro v
    have h1 : Sim n (updo ρ (some p) v) [] (a.put (some p) v) := ha.put (some p) (by simpa [okd] using hp) v
    have h2 := h1.put (some q) (by simpa [okd] using hq) v
    exact ⟨h2.size, rfl, h2.slot⟩
  refine wpIn_rangeFunc_ownF (F := Wd none) rfl hm (gf := gf) (lb := lb) (by rw [ha.eval]; exact hg) trivial eg hseq hKt hKb (Below.refl _ _) (fun _ => rfl) I Ix hI hIx h0
    (fun x => { tmps := (a.tmps.setIfInBounds p (enc x)).setIfInBounds q (enc x), defers := [] }) ?_ ?_ ?_ ?_
  · intro l x W K hK
    refine wpIn_region_lit (l := [_]) ?_
    refine wpListIn_plain rfl fun K' hK' => ?_
    unfold Oper.wpIn
    refine ⟨fun _ _ => trivial, ?_⟩
    rw [Oper.semAt_eq _ _ _ (fun c e => by cases e)]
    simp [execOp, Act.eval, Oper.uponIn, Act.put, hp']
    exact hK' _ _ (wpListIn_nil hK)
  · intro l pre x W hi hl
    exact hbody l pre x W hi hl (by simp [okk, hok]) _ (hsim (enc x))
  · intro D xs W hD hS hi hH
    exact hdone D xs W hD hS hi hH hk' _ ⟨ha.size, by simp [ha.defers], ha.slot⟩
  · intro D c pre W hD hS hi hH
    obtain ⟨h1, h2⟩ := hstop D c pre W hD hS hi hH
    exact h2 (by simp [okk, h1, hk']) _ ⟨ha.size, by simp [ha.defers], ha.slot⟩
theorem run_cell {fn : Func} {p : Nat} {t T : TypeId} {D : TypeDesc} {g : Nat} {cs : List Value} {v : Value} (hr : fn.results = #[.cell p t]) (ht : P.underlying t = some D) (hD : aggD D = false) (hB : B w g T cs) (hc : cs[0]? = some v) {tmps : Array Value} (e : tmps.getD p undef = .pointer (some ⟨g, 0, none⟩)) : (results fn tmps).run P w = .ok v w := by
  simp only [Array.getD_eq_getD_getElem?] at e
  have hc' : w.cell? ⟨g, 0, none⟩ = some v := (hB.cell 0).trans hc
  have hl : (loadVar t ⟨g, 0, none⟩).run P w = .ok v w := by
    cases D <;> simp [aggD] at hD <;> simp [loadVar, isAgg, run_underlying ht, hc']
  simp [results, hr, e, asAddr, hl]
/-- The end of a function with a range over a function: ahead of it; behind it. -/
theorem finM0 {fn : Func} {R : Ending → World → Prop} {p : Nat} {t T : TypeId} {D : TypeDesc} {g : Nat} {cs : List Value} {v : Value} (hr : fn.results = #[.cell p t]) (ht : P.underlying t = some D) (hD : aggD D = false) (hp : ρ p = .pointer (some ⟨g, 0, none⟩)) (hB : B w g T cs) (hc : cs[0]? = some v) (h : R (.returned v) w) : S P none m n [] (bodyPostM (Wd none) m P fn R) ρ [] w :=
  fun _ a ha => by
    show LeavesInM (Wd none) m P fn a.tmps R a.defers .returning w
    rw [ha.defers]
    exact ⟨v, run_cell hr ht hD hB hc ((ha.slot p).trans hp), h⟩
theorem putObj_B {w : World} {g T l : Nat} {cs : List Value} {o o' : Obj} (hB : B w g T cs) (hl : w.heap[l]? = some o) (ho : o.isCells = false) : B (w.putObj l o') g T cs := by
  have hne : g ≠ l := fun e => by
    subst e
    have := hB
    rw [B, hl] at this
    injection this with this
    subst this
    cases ho
  exact (World.putObj_heap_other hne).trans hB
theorem finM {fn : Func} {R : Ending → World → Prop} {p l : Nat} {t T : TypeId} {D : TypeDesc} {g : Nat} {cs : List Value} {v : Value} (hr : fn.results = #[.cell p t]) (ht : P.underlying t = some D) (hD : aggD D = false) (hp : ρ p = .pointer (some ⟨g, 0, none⟩)) (hB : B w g T cs) (hc : cs[0]? = some v) (hH : w.heap[l]? = some (.deferred (some []))) (h : R (.returned v) (w.putObj l (.deferred none))) : S P none m n [] (bodyPostM (Wd none) m P fn R) ρ [collD l] w :=
  fun _ a ha => by
    show LeavesInM (Wd none) m P fn a.tmps R a.defers .returning w
    rw [ha.defers]
    exact ⟨by simp, .inl ⟨l, _, rfl, run_takeDeferred hH, v, run_cell hr ht hD (putObj_B hB hH rfl) hc ((ha.slot p).trans hp), h⟩⟩
theorem rtM {fn : Func} {R : Ending → World → Prop} (h : S P none m n [] (bodyPostM (Wd none) m P fn R) ρ ds w) : S P none m n (.c .ret :: k) (bodyPostM (Wd none) m P fn R) ρ ds w :=
  fun hk a ha => wpIn_ret (den_ret k a w (h rfl a ha))
theorem enterM {f : FuncId} {fn : Func} {c : Code} {args : Array Value} {R : Ending → World → Prop} (hf : P.funcs[f]? = some fn) (hb : fn.body = some c) (hn : fn.ntmps = n)
    (hok : okc n c = true) (hs : Nat.ble args.size n = true) (h : S P none m n [.c c] (bodyPostM (Wd none) m P fn R) (ini args) [] w) : Calls P f args w R := by
  refine (callsIn_wide (n := m)).1 (callsIn_of_wp_marks (F := Wd none) hf hb trivial ?_)
  have hs' : args.size ≤ n := Nat.le_of_ble_eq_true hs
  refine h (by simp [okk, hok]) _ ⟨by simp [hn]; omega, rfl, fun t => ?_⟩
  simp only [ini, Array.getD_eq_getD_getElem?, Array.getElem?_append]
  split
  · rfl
  · rename_i hlt
    rw [Array.getElem?_eq_none (Nat.le_of_not_lt hlt)]
    simp only [Array.getElem?_replicate]
    split <;> rfl
theorem cl {d : Option Nat} {ty : TypeId} {pos : String} {af : Array Edge} {f : FuncId} {xs : Array Operand} {vs : List Value} {ts : Array TypeId} {Φ : Value → World → Prop} (hg : Goes P f) (hc : Ret P f vs.toArray w Φ) (hx : xs.toList.map (ev ρ) = vs) (h : ∀ v w', Φ v w' → L P ro m n ops rest k Qf (updo ρ d v) ds w') :
    L P ro m n ops (⟨d, .call ⟨.value (.func f), xs, ts⟩, ty, pos, af, none⟩ :: rest) k Qf ρ ds w := by
  intro hl hk a ha
  simp only [okl, Bool.and_eq_true] at hl
  have hrun : (execOp (ev ρ) ⟨d, .call ⟨.value (.func f), xs, ts⟩, ty, pos, af, none⟩).run P w = .ok (.enter f vs.toArray) w := by
    rw [← arr hx]
    simp [execOp, resolve, Deferred.ofValue, invoke, ev, hg _ w]
  refine wpListIn_plain rfl fun K hK => ?_
  unfold Oper.wpIn
  refine ⟨fun _ _ => trivial, ?_⟩
  rw [ha.eval, semAt_run (fun c e => by cases e) hrun, Oper.uponIn_enter]
  refine ⟨fun h => (by cases h), ret_in (Calls.mono hc fun e w2 ⟨v, he, hv⟩ => ?_)⟩
  subst he
  exact hK _ _ (h v w2 hv hl.2 hk _ (ha.put d hl.1 v))
/-- Resources all of whose blocks are cells. -/
def Cel (r : Rs) : Prop := ∀ w F, r.P w F → ∀ k, k ∈ F → ∃ o, w.heap[k]? = some o ∧ o.isCells = true
theorem cel_B {g T : Nat} {cs : List Value} : Cel (rB g T cs) := fun w F ⟨e, hB⟩ k hk => by rw [e] at hk; rw [List.mem_singleton.1 hk]; exact ⟨_, hB, rfl⟩
theorem cel_R {kd : IntKind} {e : TypeId} {v : Value} {xs : List Int} : Cel (rR (Kd.int kd) e v xs) := fun w F h k hk => by
  obtain ⟨Fs, cs, ho, rfl, he⟩ := (show (Kd.int kd).W e w F v xs from h)
  have hFs : Fs = [] := by
    clear ho hk h
    induction xs generalizing Fs cs with
    | nil => exact he.1
    | cons x xs ih =>
      obtain ⟨F1, F2, c1, c2, rfl, rfl, h1, h2⟩ := he
      rw [show F1 = [] from h1.2, ih F2 c2 h2]; rfl
  subst hFs
  rcases ho.2 with ⟨rfl, _⟩ | ⟨g, cap, cur, rfl, _, hh, _⟩
  · simp [Value.ownBlock] at hk
  · simp [Value.ownBlock] at hk
    rw [hk]; exact ⟨_, hh, rfl⟩
theorem cel_Hs {w : World} {Γ : List Rs} (hc : ∀ r, r ∈ Γ → Cel r) : ∀ {F : List Nat}, Hs w Γ F → ∀ k, k ∈ F → ∃ o, w.heap[k]? = some o ∧ o.isCells = true := by
  induction Γ with
  | nil => rintro F rfl k hk; cases hk
  | cons r Γ ih =>
    rintro F ⟨F1, F2, rfl, h1, h2⟩ k hk
    rcases List.mem_append.1 hk with hk | hk
    · exact hc r (by simp) w F1 h1 k hk
    · exact ih (fun r hr => hc r (by simp [hr])) h2 k hk
/-- What is held abides what turns of blocks that are no cells. -/
theorem hold_own {w0 A B : World} {Γ : List Rs} {row : Option Nat} {b : Nat} (hc : ∀ r, r ∈ Γ → Cel r) (H : Hold w0 [] A Γ) (hg : A.grownBy B row) (hb : w0.heap.size ≤ b) (hr : ∀ r, row = some r → b ≤ r ∧ ∃ o : Obj, A.heap[r]? = some o ∧ o.isCells = false) : Hold w0 [] B Γ := by
  obtain ⟨F, h, n, s, c⟩ := H
  refine ⟨F, h.mv fun k hk => hg.block k (h.lt k hk) (fun e => ?_), n, s, ⟨hg.os.trans c.os, hg.tape.trans c.tape, hg.output.trans c.output, Nat.le_trans c.size hg.size, fun k hk hn => ?_⟩⟩
  · obtain ⟨o, h1, h2⟩ := cel_Hs hc h k hk
    obtain ⟨_, o', h3, h4⟩ := hr k e.symm
    rw [h1] at h3; injection h3 with h3; subst h3; rw [h2] at h4; cases h4
  · rw [hg.block k (Nat.lt_of_lt_of_le hk c.size) (fun e => by have := (hr k e.symm).1; omega)]; exact c.blk k hk hn
theorem keeps_of_ch {F : List Nat} {A B : World} (c : Ch F A B) (h : ∀ k, k ∈ F → ∃ o, A.heap[k]? = some o ∧ o.isCells = true) : KeepsOthers A B :=
  ⟨c.size, fun k o hk ho => by
    have hlt := (Array.getElem?_eq_some_iff.1 hk).1
    rw [c.blk k hlt (fun hF => by obtain ⟨o', h1, h2⟩ := h k hF; rw [hk] at h1; injection h1 with h1; subst h1; rw [h2] at ho; cases ho)]
    exact hk⟩
end
end Go.EngI
