/-
  THE ENGINE's LAWS, an operation each, OF MY OWN: over any program. No condition.
-/
import Derived.Test.YtgpcanjmgdmdhaaDoorRep
import Derived.Deep.Quiet
namespace Go.Eng
set_option linter.unusedVariables false
set_option linter.unusedSimpArgs false

def aggD : TypeDesc → Bool
  | .struct _ => true
  | .array _ _ => true
  | _ => false
def TI (P : Program) (t : TypeId) (z : Value) (sz by_ : Nat) : Prop := (P.info? t).map (fun i => (i.zero, i.size, i.bytes)) = some (some z, sz, by_)
def splice (cs : List Value) (o : Nat) (vs : List Value) : List Value := cs.take o ++ vs ++ cs.drop (o + vs.length)

section
variable {P : Program} {n : Nat} {k : List It} {Qf : Exit → Act → World → Prop} {ρ : Fr} {ds : List Deferred} {w : World}
variable {ops : Array Oper} {rest : List Oper} {d : Option Nat} {ty : TypeId} {pos : String} {af : Array Edge}

/-- In this world, and in whatever world comes of it by new blocks alone, the operation comes to v and leaves the world as it is. -/
def Rn (P : Program) (ρ : Fr) (o : Oper) (w : World) (v : Value) : Prop := o.guard = none ∧ ∀ w', Ch [] w w' → (execOp (ev ρ) o).run P w' = .ok (.value v) w'
theorem r {o : Oper} {v : Value} (hr : Rn P ρ o w v) (h : L P n ops rest k Qf (updo ρ o.dst v) ds w) : L P n ops (o :: rest) k Qf ρ ds w := opv hr.1 (hr.2 w (Ch.refl _ _)) h
theorem Ch.cell {w w' : World} {p : Addr} {v : Value} (h : Ch [] w w') (hc : w.cell? p = some v) : w'.cell? p = some v :=
  (World.cell?_of_block (h.blk p.block (World.block_lt_of_cell? w p hc) (by simp))).trans hc


theorem mv {x : Operand} {v : Value} (hx : ev ρ x = v) : Rn P ρ ⟨d, .move x, ty, pos, af, none⟩ w v := by
  subst hx
  exact ⟨rfl, fun w' _ => by simp [execOp]⟩
theorem sa {x : Operand} {v : Value} (hx : ev ρ x = v) : Rn P ρ ⟨d, .assign x, ty, pos, af, none⟩ w v := by
  subst hx
  exact ⟨rfl, fun w' _ => by simp [execOp]⟩
theorem pk {c a b : Operand} {t : Bool} {v : Value} (hc : ev ρ c = .bool t) (hv : (bif t then ev ρ a else ev ρ b) = v) : Rn P ρ ⟨d, .pick c a b, ty, pos, af, none⟩ w v := by
  subst hv
  refine ⟨rfl, fun w' _ => ?_⟩
  cases t <;> simp [execOp, hc, asBool]

/-! ### Whole numbers -/
/-- The operators that come to a value on any two numbers. -/
def ib : BinOp → IntKind → Int → Int → Option Value
  | .add, k, a, b => some (.int k (k.wrap (a + b)))
  | .sub, k, a, b => some (.int k (k.wrap (a - b)))
  | .mul, k, a, b => some (.int k (k.wrap (a * b)))
  | .eql, _, a, b => some (.bool (decide (a = b)))
  | .neq, _, a, b => some (.bool (!decide (a = b)))
  | .lss, _, a, b => some (.bool (decide (a < b)))
  | .leq, _, a, b => some (.bool (decide (a ≤ b)))
  | .gtr, _, a, b => some (.bool (decide (b < a)))
  | .geq, _, a, b => some (.bool (decide (b ≤ a)))
  | _, _, _, _ => none
theorem bi {op : BinOp} {t u : TypeId} {x y : Operand} {kd : IntKind} {a b : Int} {v : Value} (hx : ev ρ x = .int kd a) (hy : ev ρ y = .int kd b) (hv : ib op kd a b = some v) : Rn P ρ ⟨d, .binOp op t x y u, ty, pos, af, none⟩ w v := by
  refine ⟨rfl, fun w' _ => ?_⟩
  have hb : ∀ p q : Int, (p == q) = decide (p = q) := fun p q => by by_cases e : p = q <;> simp [e]
  cases op <;> simp only [ib, Option.some.injEq, reduceCtorEq] at hv <;> subst hv <;> simp [execOp, hx, hy, eqGuard, binOp, Op.intArith, Op.intCmp, hb, bne]
/-- The sum is c, and fits. -/
theorem ad {t u : TypeId} {x y : Operand} {a b : Int} (c : Int) (hx : ev ρ x = .int .i64 a) (hy : ev ρ y = .int .i64 b) (hc : a + b = c ∧ -9223372036854775808 ≤ c ∧ c ≤ 9223372036854775807) : Rn P ρ ⟨d, .binOp .add t x y u, ty, pos, af, none⟩ w (.int .i64 c) := by
  have : IntKind.i64.wrap (a + b) = c := by rw [IntWalk.i64_in _ (by omega)]; exact hc.1
  exact bi hx hy (by simp [ib, this])
theorem sb {t u : TypeId} {x y : Operand} {a b : Int} (c : Int) (hx : ev ρ x = .int .i64 a) (hy : ev ρ y = .int .i64 b) (hc : a - b = c ∧ -9223372036854775808 ≤ c ∧ c ≤ 9223372036854775807) : Rn P ρ ⟨d, .binOp .sub t x y u, ty, pos, af, none⟩ w (.int .i64 c) := by
  have : IntKind.i64.wrap (a - b) = c := by rw [IntWalk.i64_in _ (by omega)]; exact hc.1
  exact bi hx hy (by simp [ib, this])
theorem ml {t u : TypeId} {x y : Operand} {a b : Int} (c : Int) (hx : ev ρ x = .int .i64 a) (hy : ev ρ y = .int .i64 b) (hc : a * b = c ∧ -9223372036854775808 ≤ c ∧ c ≤ 9223372036854775807) : Rn P ρ ⟨d, .binOp .mul t x y u, ty, pos, af, none⟩ w (.int .i64 c) := by
  have : IntKind.i64.wrap (a * b) = c := by rw [IntWalk.i64_in _ (by omega)]; exact hc.1
  exact bi hx hy (by simp [ib, this])
/-- Division and the rest, by a number that is not 0. -/
theorem dv {t u : TypeId} {x y : Operand} {a b : Int} (c : Int) (hx : ev ρ x = .int .i64 a) (hy : ev ρ y = .int .i64 b) (hc : b ≠ 0 ∧ a.tdiv b = c ∧ -9223372036854775808 ≤ c ∧ c ≤ 9223372036854775807) : Rn P ρ ⟨d, .binOp .quo t x y u, ty, pos, af, none⟩ w (.int .i64 c) := by
  have : IntKind.i64.wrap (a.tdiv b) = c := by rw [IntWalk.i64_in _ (by omega)]; exact hc.2.1
  exact ⟨rfl, fun w' _ => by simp [execOp, hx, hy, eqGuard, binOp, Op.intDiv, hc.1, this]⟩
theorem rm {kd : IntKind} {t u : TypeId} {x y : Operand} {a b : Int} (c : Int) (hx : ev ρ x = .int kd a) (hy : ev ρ y = .int kd b) (hc : b ≠ 0 ∧ a.tmod b = c) : Rn P ρ ⟨d, .binOp .rem t x y u, ty, pos, af, none⟩ w (.int kd c) :=
  ⟨rfl, fun w' _ => by simp [execOp, hx, hy, eqGuard, binOp, Op.intDiv, hc.1, hc.2]⟩
/-- Between two whole numbers: a conversion. -/
theorem cv {s t : TypeId} {x : Operand} {kd kd' : IntKind} {a : Int} {ds' : TypeDesc} (c : Int) (hs : P.underlying s = some ds') (ht : P.underlying t = some (.int kd')) (hx : ev ρ x = .int kd a) (hc : kd'.wrap a = c) : Rn P ρ ⟨d, .convert s t x, ty, pos, af, none⟩ w (.int kd' c) :=
  ⟨rfl, fun w' _ => by simp [execOp, hx, convert, run_underlying hs, run_underlying ht, Conv.intToInt, hc]⟩
theorem sr {t u : TypeId} {x y : Operand} {kd kd' : IntKind} {a b : Int} (c : Int) (hx : ev ρ x = .int kd a) (hy : ev ρ y = .int kd' b) (hc : 0 ≤ b ∧ a.fdiv (2 ^ (min b.toNat kd.bits)) = c) : Rn P ρ ⟨d, .binOp .shr t x y u, ty, pos, af, none⟩ w (.int kd c) :=
  ⟨rfl, fun w' _ => by simp [execOp, hx, hy, eqGuard, binOp, Op.shift, show ¬ b < 0 by omega, hc.2]⟩
theorem sh {t u : TypeId} {x y : Operand} {kd kd' : IntKind} {a b : Int} (c : Int) (hx : ev ρ x = .int kd a) (hy : ev ρ y = .int kd' b) (hc : 0 ≤ b ∧ kd.wrap (a * 2 ^ (min b.toNat kd.bits)) = c) : Rn P ρ ⟨d, .binOp .shl t x y u, ty, pos, af, none⟩ w (.int kd c) :=
  ⟨rfl, fun w' _ => by simp [execOp, hx, hy, eqGuard, binOp, Op.shift, show ¬ b < 0 by omega, hc.2]⟩
theorem nt {x : Operand} {t : TypeId} {b : Bool} (hx : ev ρ x = .bool b) : Rn P ρ ⟨d, .unOp .not t x, ty, pos, af, none⟩ w (.bool (!b)) :=
  ⟨rfl, fun w' _ => by simp [execOp, hx, Op.unary]⟩
/-- Bools compared. -/
theorem beq_ {t u : TypeId} {x y : Operand} {a b : Bool} (ht : P.underlying t = some .bool) (hx : ev ρ x = .bool a) (hy : ev ρ y = .bool b) : Rn P ρ ⟨d, .binOp .eql t x y u, ty, pos, af, none⟩ w (.bool (a == b)) := by
  refine ⟨rfl, fun w' _ => ?_⟩
  simp only [execOp, hx, hy, eqGuard, binOp, Sem.run_bind, Sem.run_pure, Result.andThen_ok, run_equal_bool _ t a b ht]
  rfl
theorem bne_ {t u : TypeId} {x y : Operand} {a b : Bool} (ht : P.underlying t = some .bool) (hx : ev ρ x = .bool a) (hy : ev ρ y = .bool b) : Rn P ρ ⟨d, .binOp .neq t x y u, ty, pos, af, none⟩ w (.bool (!(a == b))) := by
  refine ⟨rfl, fun w' _ => ?_⟩
  simp only [execOp, hx, hy, eqGuard, binOp, Sem.run_bind, Sem.run_pure, Result.andThen_ok, run_equal_bool _ t a b ht]
  rfl

/-! ### Parting on a slot's Bool -/
theorem upd_self (ρ : Fr) (t : Nat) (v : Value) (h : ρ t = v) : upd ρ t v = ρ := by
  funext s
  unfold upd
  cases e : Nat.beq s t with
  | false => rfl
  | true => rw [Nat.eq_of_beq_eq_true e, ← h]; rfl
theorem sp (t : Nat) {p : Prop} [Decidable p] (ht : ρ t = .bool (decide p)) (hT : p → L P n ops rest k Qf (upd ρ t (.bool true)) ds w) (hF : ¬ p → L P n ops rest k Qf (upd ρ t (.bool false)) ds w) : L P n ops rest k Qf ρ ds w := by
  by_cases h : p
  · have := hT h; rwa [upd_self ρ t _ (by rw [ht, decide_eq_true h])] at this
  · have := hF h; rwa [upd_self ρ t _ (by rw [ht, decide_eq_false h])] at this
theorem spn (t : Nat) {p : Prop} [Decidable p] (ht : ρ t = .bool (!decide p)) (hT : ¬ p → L P n ops rest k Qf (upd ρ t (.bool true)) ds w) (hF : p → L P n ops rest k Qf (upd ρ t (.bool false)) ds w) : L P n ops rest k Qf ρ ds w := by
  by_cases h : p
  · have := hF h; rwa [upd_self ρ t _ (by rw [ht, decide_eq_true h]; rfl)] at this
  · have := hT h; rwa [upd_self ρ t _ (by rw [ht, decide_eq_false h]; rfl)] at this
theorem spb (t : Nat) {b : Bool} (ht : ρ t = .bool b) (hT : b = true → L P n ops rest k Qf (upd ρ t (.bool true)) ds w) (hF : b = false → L P n ops rest k Qf (upd ρ t (.bool false)) ds w) : L P n ops rest k Qf ρ ds w := by
  cases b
  · have := hF rfl; rwa [upd_self ρ t _ ht] at this
  · have := hT rfl; rwa [upd_self ρ t _ ht] at this

/-! ### Calls; several results -/
theorem ac {x : Operand} {xs : List Operand} {v : Value} {vs : List Value} (hx : ev ρ x = v) (h : xs.map (ev ρ) = vs) : (x :: xs).map (ev ρ) = v :: vs := by simp [hx, h]
theorem an : ([] : List Operand).map (ev ρ) = [] := rfl
theorem arr {xs : Array Operand} {vs : List Value} (h : xs.toList.map (ev ρ) = vs) : xs.map (ev ρ) = vs.toArray := by
  subst h; apply Array.toList_inj.1; simp
def Goes (P : Program) (f : FuncId) : Prop := ∀ (args : Array Value) (w : World), (callFunc f args).run P w = .ok (.enter f args) w
theorem goes {f : FuncId} {fn : Func} (hf : P.funcs[f]? = some fn) (hn : (fn.name == "runtime.NumGoroutine") = false) (hb : fn.body.isSome = true) : Goes P f := by
  intro args w
  have hb' : fn.body.isNone = false := by cases h : fn.body <;> simp_all
  simp only [callFunc, Sem.run_bind, run_program, Result.andThen_ok, hf, hn, hb', Bool.false_eq_true, if_false, Sem.run_pure]
/-- A named function is called, by its contract. -/
theorem cl {f : FuncId} {xs : Array Operand} {vs : List Value} {ts : Array TypeId} {Φ : Value → World → Prop} (hg : Goes P f) (hc : Ret P f vs.toArray w Φ) (hx : xs.toList.map (ev ρ) = vs) (h : ∀ v w', Φ v w' → L P n ops rest k Qf (updo ρ d v) ds w') :
    L P n ops (⟨d, .call ⟨.value (.func f), xs, ts⟩, ty, pos, af, none⟩ :: rest) k Qf ρ ds w := by
  refine opc (w' := w) (f := f) (args := vs.toArray) rfl ?_ hc h
  rw [← arr hx]
  simp [execOp, resolve, Deferred.ofValue, invoke, ev, hg _ w]
/-- A function value is called, by the contract of what it is. -/
theorem clv {x : Operand} {f : FuncId} {cap : List Value} {xs : Array Operand} {vs : List Value} {ts : Array TypeId} {Φ : Value → World → Prop} (hx : ev ρ x = .func (.func f) #[] cap.toArray) (hg : Goes P f) (hxs : xs.toList.map (ev ρ) = vs) (hc : Ret P f (vs ++ cap).toArray w Φ)
    (h : ∀ v w', Φ v w' → L P n ops rest k Qf (updo ρ d v) ds w') :
    L P n ops (⟨d, .call ⟨.value x, xs, ts⟩, ty, pos, af, none⟩ :: rest) k Qf ρ ds w := by
  refine opc (w' := w) (f := f) (args := (vs ++ cap).toArray) rfl ?_ hc h
  have := arr hxs
  simp [execOp, resolve, Deferred.ofValue, invoke, hx, hg _ w, this]
theorem xt {x : Operand} {i : Nat} {vs : Array Value} {v : Value} (hx : ev ρ x = .tuple vs) (hv : vs[i]? = some v) : Rn P ρ ⟨d, .extract x i, ty, pos, af, none⟩ w v :=
  ⟨rfl, fun w' _ => by simp [execOp, hx, Instr.extract, hv]⟩

theorem mf {fn : Fn} {first captured : Array Operand} {vs cs : List Value} (h1 : first.toList.map (ev ρ) = vs) (h2 : captured.toList.map (ev ρ) = cs) : Rn P ρ ⟨d, .makeFunc fn first captured, ty, pos, af, none⟩ w (.func fn vs.toArray cs.toArray) :=
  ⟨rfl, fun w' _ => by simp [execOp, Instr.makeFunc, arr h1, arr h2]⟩
/-! ### A struct is built -/
/-- A struct type's fields: where each lies, and its size. -/
def PL (P : Program) (t : TypeId) (pl : List (Nat × Nat)) : Prop := (match P.underlying t with
  | some (.struct fs) => fs.toList.mapM (fun f => (P.info? f.type).map fun i => (f.offset, i.size))
  | _ => none) = some pl
def fillL (pl : List (Nat × Nat)) : List Value → List (Nat × List Value) → Option (List Value)
  | cs, [] => some cs
  | cs, (i, v) :: r => match pl[i]? with
    | none => none
    | some (o, sz) => bif Nat.beq v.length sz && Nat.ble (o + v.length) cs.length then fillL pl (splice cs o v) r else none
theorem fold_splice (vs : List Value) (j o : Nat) (cs : Array Value) (h : o + j + vs.length ≤ cs.size) : ((vs.zipIdx j).foldl (fun a (c, i) => a.setIfInBounds (o + i) c) cs).toList = splice cs.toList (o + j) vs := by
  induction vs generalizing j cs with
  | nil => simp [splice]
  | cons v vs ih =>
    simp only [List.length_cons] at h
    rw [List.zipIdx_cons, List.foldl_cons, ih (j + 1) (cs.setIfInBounds (o + j) v) (by simp; omega)]
    simp only [splice, Array.toList_setIfInBounds, List.length_cons]
    apply List.ext_getElem?
    intro m
    simp only [List.getElem?_append, List.length_append, List.length_take, List.length_set, Array.length_toList, List.getElem?_take, List.getElem?_drop, List.getElem?_set, List.getElem?_cons, List.length_cons]
    have e1 : min (o + (j + 1)) cs.size = o + j + 1 := by omega
    have e2 : min (o + j) cs.size = o + j := by omega
    rw [e1, e2]
    by_cases c1 : m < o + j
    · simp [c1, show m < o + j + 1 by omega, show m < o + j + 1 + vs.length by omega, show m < o + j + (vs.length + 1) by omega, show ¬ o + j = m by omega, show m < o + (j + 1) by omega]
    · by_cases c2 : m = o + j
      · subst c2
        simp [show o + j < cs.size by omega, show o + j < o + (j + 1) by omega, show o + j < o + j + 1 + vs.length by omega]
      · obtain ⟨q, rfl⟩ : ∃ q, m = o + j + 1 + q := ⟨m - (o + j + 1), by omega⟩
        simp only [show ¬ o + j + 1 + q < o + j + 1 by omega, show ¬ o + j + 1 + q < o + j by omega, if_false, show ¬ o + j = o + (j + 1) + vs.length + (o + j + 1 + q - (o + j + 1 + vs.length)) by omega, show o + j + 1 + q - (o + j) = q + 1 by omega, show ¬ (q + 1 = 0) by omega, show o + j + 1 + q - (o + j + 1) = q by omega, show (o + j + 1 + q < o + j + 1 + vs.length) = (q < vs.length) from propext (by omega), show (o + j + 1 + q < o + j + (vs.length + 1)) = (q < vs.length) from propext (by omega)]
        by_cases c3 : q < vs.length
        · simp [c3]
        · simp only [c3, if_false]
          congr 1
          omega
theorem fill_L {pl : List (Nat × Nat)} {place : Nat → Option (Nat × Nat)} (hpl : ∀ i q, pl[i]? = some q → place i = some q) : ∀ {parts : List (Nat × Value)} {cs : Array Value} {L : List (Nat × List Value)} {r : List Value}, parts.map (fun p => (p.1, p.2.cells.toList)) = L → fillL pl cs.toList L = some r → Instr.fill place cs parts = some r.toArray
  | [], cs, L, r, hp, h => by
    subst hp
    simp only [List.map_nil, fillL, Option.some.injEq] at h
    subst h; simp [Instr.fill]
  | (i, v) :: ps, cs, L, r, hp, h => by
    subst hp
    simp only [List.map_cons, fillL] at h
    cases hi : pl[i]? with
    | none => simp [hi] at h
    | some q =>
      obtain ⟨o, sz⟩ := q
      simp only [hi] at h
      cases hb : (Nat.beq v.cells.toList.length sz && Nat.ble (o + v.cells.toList.length) cs.toList.length) with
      | false => rw [hb] at h; cases h
      | true =>
        simp only [hb, cond_true] at h
        simp only [Bool.and_eq_true, Nat.ble_eq, Nat.beq_eq, Array.length_toList] at hb
        have h1 : (v.cells.size ≠ sz || o + v.cells.size > cs.size) = false := by simp [hb.1]; omega
        have hf := fold_splice v.cells.toList 0 o cs (by simp; omega)
        simp only [Nat.add_zero] at hf
        rw [← hf] at h
        have := fill_L hpl (parts := ps) (cs := (v.cells.toList.zipIdx.foldl (fun a (c, i) => a.setIfInBounds (o + i) c) cs)) rfl h
        simp only [Instr.fill, hpl i _ hi, h1, Bool.false_eq_true, if_false]
        rw [← Array.foldl_toList, Array.toList_zipIdx]
        simpa using this
/-- The parts' cells. -/
theorem pc {i : Nat} {x : Operand} {xs : List (Nat × Operand)} {v : Value} {c : List Value} {L : List (Nat × List Value)} (hx : ev ρ x = v) (hc : v.cells.toList = c) (h : xs.map (fun p => (p.1, (ev ρ p.2).cells.toList)) = L) : ((i, x) :: xs).map (fun p => (p.1, (ev ρ p.2).cells.toList)) = (i, c) :: L := by simp [hx, hc, h]
theorem pn : ([] : List (Nat × Operand)).map (fun p => (p.1, (ev ρ p.2).cells.toList)) = [] := rfl
theorem cel1 {v : Value} (h : v.oneCell' = true) : v.cells.toList = [v] := by cases v <;> first | rfl | (simp [Value.oneCell'] at h; done)
theorem bd {t : TypeId} {parts : Array (Nat × Operand)} {pl : List (Nat × Nat)} {z : Value} {sz by_ : Nat} {L : List (Nat × List Value)} {r : List Value} (hi : TI P t z sz by_) (hpl : PL P t pl) (hp : parts.toList.map (fun p => (p.1, (ev ρ p.2).cells.toList)) = L) (hr : fillL pl z.cells.toList L = some r) : Rn P ρ ⟨d, .build t parts, ty, pos, af, none⟩ w (.agg r.toArray) := by
  refine ⟨rfl, fun w' _ => ?_⟩
  have hb : P.built t ((parts.map fun (i, x) => (i, ev ρ x)).toList) = some r.toArray := by
    have hm : ((parts.map fun (i, x) => (i, ev ρ x)).toList).map (fun p => (p.1, p.2.cells.toList)) = L := by
      rw [← hp]; simp
    obtain ⟨i0, hi0, hz, _, _⟩ := info_parts hi
    unfold PL at hpl
    unfold Program.built
    rw [hi0]
    cases hu : P.underlying t with
    | none => simp [hu] at hpl
    | some D =>
      cases D <;> try (simp [hu] at hpl; done)
      case struct fs =>
        simp only [hu] at hpl
        simp only [hz, hpl]
        exact fill_L (fun i q h => by simpa using h) hm hr
  simp only [execOp, Sem.run_bind, run_build w' t _ _ hb, Result.andThen_ok, Sem.run_pure]
theorem cells_one {v : Value} (h : v.oneCell' = true) : v.cells = #[v] := by cases v <;> first | rfl | (simp [Value.oneCell'] at h; done)

/-! ### Lengths -/
theorem ln {α : Type} {dk : Kd α} {F : List Nat} {xs : List α} {x : Operand} {t e : TypeId} {v : Value} (ht : P.underlying t = some (.slice e)) (hx : ev ρ x = v) (hR : dk.R w F v xs) : Rn P ρ ⟨d, .call ⟨.builtin .len, #[x], #[t]⟩, ty, pos, af, none⟩ w (.int .i64 (xs.length : Int)) := by
  obtain ⟨A, c, rfl, _⟩ := hR.shape
  exact ⟨rfl, fun w' _ => by simp [execOp, resolve, invoke, builtin, Builtin.len_, run_underlying ht, hx, goInt]⟩
theorem lns {x : Operand} {t : TypeId} {s : ByteArray} (ht : P.underlying t = some .string) (hx : ev ρ x = .string s) : Rn P ρ ⟨d, .call ⟨.builtin .len, #[x], #[t]⟩, ty, pos, af, none⟩ w (.int .i64 (s.size : Int)) :=
  ⟨rfl, fun w' _ => by simp [execOp, resolve, invoke, builtin, Builtin.len_, run_underlying ht, hx, goInt]⟩

/-! ### New blocks, loads and stores -/
theorem alloc_B {cs : Array Value} {T : TypeId} (w : World) : B (w.alloc (.cells cs T)) w.heap.size T cs.toList := by
  have := b_alloc w cs.toList T
  rwa [Array.toArray_toList] at this
theorem al {t : TypeId} {z : Value} {sz by_ : Nat} (hi : TI P t z sz by_)
    (h : ∀ g w', g = w.heap.size → w'.heap.size = g + 1 → B w' g t z.cells.toList → Ch [] w w' → L P n ops rest k Qf (updo ρ d (.pointer (some ⟨g, 0, none⟩))) ds w') : L P n ops (⟨d, .alloc t, ty, pos, af, none⟩ :: rest) k Qf ρ ds w := by
  obtain ⟨i0, hi0, hz, _, _⟩ := info_parts hi
  refine opv (v := .pointer (some ⟨w.heap.size, 0, none⟩)) (w' := w.alloc (.cells z.cells t)) rfl ?_ (h _ _ rfl (by simp) (alloc_B w) (ch_alloc _ _))
  simp [execOp, Instr.alloc, zeroValue, typeInfo, hi0, hz, newVar, newRow, run_program]
theorem bx' {t : TypeId} {x : Operand} {v : Value} {cs : List Value} (hx : ev ρ x = v) (hv : v.cells.toList = cs)
    (h : ∀ g w', g = w.heap.size → w'.heap.size = g + 1 → B w' g t cs → Ch [] w w' → L P n ops rest k Qf (updo ρ d (.pointer (some ⟨g, 0, none⟩))) ds w') : L P n ops (⟨d, .box t x, ty, pos, af, none⟩ :: rest) k Qf ρ ds w := by
  subst hv
  refine opv (v := .pointer (some ⟨w.heap.size, 0, none⟩)) (w' := w.alloc (.cells v.cells t)) rfl ?_ (h _ _ rfl (by simp) (alloc_B w) (ch_alloc _ _))
  simp [execOp, Instr.box, hx, newVar, newRow]
theorem bx {t : TypeId} {x : Operand} {v : Value} (hx : ev ρ x = v)
    (h : ∀ g w', g = w.heap.size → w'.heap.size = g + 1 → B w' g t v.cells.toList → Ch [] w w' → L P n ops rest k Qf (updo ρ d (.pointer (some ⟨g, 0, none⟩))) ds w') : L P n ops (⟨d, .box t x, ty, pos, af, none⟩ :: rest) k Qf ρ ds w := by
  refine opv (v := .pointer (some ⟨w.heap.size, 0, none⟩)) (w' := w.alloc (.cells v.cells t)) rfl ?_ (h _ _ rfl (by simp) (alloc_B w) (ch_alloc _ _))
  simp [execOp, Instr.box, hx, newVar, newRow]
/-- The address of a field. -/
theorem fa' {s : TypeId} {x : Operand} {j : Nat} {p : Addr} {fs : Array Field} {f : Field} {sz : Nat} {z : Value} {by_ : Nat} (hs : P.underlying s = some (.struct fs)) (hf : fs[j]? = some f) (hi : TI P f.type z sz by_) (hp : Nat.blt 0 sz = true) (hx : ev ρ x = .pointer (some p)) : Rn P ρ ⟨d, .fieldAddr s x j, ty, pos, af, none⟩ w (.pointer (some (p.add f.offset))) := by
  obtain ⟨i0, hi0, hz, hsz, _⟩ := info_parts hi
  have hp' : 0 < sz := by simpa [Nat.blt_eq] using hp
  have hne : ¬ i0.size = 0 := by rw [hsz]; omega
  exact ⟨rfl, fun w' _ => by simp [execOp, Instr.fieldAt, run_underlying hs, hf, Instr.sureAddr, hx, fieldPlace, sizeOf, typeInfo, hi0, run_program, hne]⟩
theorem fa {s : TypeId} {x : Operand} {j g o : Nat} {fs : Array Field} {f : Field} {sz : Nat} {z : Value} {by_ : Nat} (hs : P.underlying s = some (.struct fs)) (hf : fs[j]? = some f) (hi : TI P f.type z sz by_) (hp : Nat.blt 0 sz = true) (hx : ev ρ x = .pointer (some ⟨g, o, none⟩)) : Rn P ρ ⟨d, .fieldAddr s x j, ty, pos, af, none⟩ w (.pointer (some ⟨g, o + f.offset, none⟩)) := by
  rw [← add_mk]
  exact fa' hs hf hi hp hx
/-- One cell is read. -/
theorem ld {t : TypeId} {x : Operand} {p : Addr} {v : Value} {D : TypeDesc} (ht : P.underlying t = some D) (hD : aggD D = false) (hx : ev ρ x = .pointer (some p)) (hc : w.cell? p = some v) : Rn P ρ ⟨d, .load t x, ty, pos, af, none⟩ w v := by
  refine ⟨rfl, fun w' hw => ?_⟩
  have hc' := hw.cell hc
  cases D <;> simp [aggD] at hD <;> simp [execOp, Instr.loadAt, Instr.sureAddr, hx, loadVar, isAgg, run_underlying ht, hc']
/-- A struct (an array) is read. -/
theorem la {t : TypeId} {x : Operand} {p : Addr} {D : TypeDesc} {z : Value} {sz by_ : Nat} (cs : List Value) (ht : P.underlying t = some D) (hD : aggD D = true) (hi : TI P t z sz by_) (hx : ev ρ x = .pointer (some p)) (hl : cs.length = sz) (hc : ∀ j u, cs[j]? = some u → w.cell? (p.add j) = some u) : Rn P ρ ⟨d, .load t x, ty, pos, af, none⟩ w (.agg cs.toArray) := by
  obtain ⟨i0, hi0, hz, hsz, _⟩ := info_parts hi
  refine ⟨rfl, fun w' hw => ?_⟩
  have hr := run_loadCells_list (P := P) w' p cs (fun j u hu => hw.cell (hc j u hu))
  cases D <;> simp [aggD] at hD <;> simp [execOp, Instr.loadAt, Instr.sureAddr, hx, loadVar, isAgg, run_underlying ht, sizeOf, typeInfo, hi0, run_program, hsz, ← hl, hr]
/-- Out of a block. -/
theorem ldb {t T : TypeId} {x : Operand} {g o : Nat} {cs : List Value} {v : Value} {D : TypeDesc} (ht : P.underlying t = some D) (hD : aggD D = false) (hx : ev ρ x = .pointer (some ⟨g, o, none⟩)) (hB : B w g T cs) (hc : cs[o]? = some v) : Rn P ρ ⟨d, .load t x, ty, pos, af, none⟩ w v := ld ht hD hx ((hB.cell o).trans hc)
theorem lab {t T : TypeId} {x : Operand} {g o : Nat} {D : TypeDesc} {z : Value} {sz by_ : Nat} {cs : List Value} (vs : List Value) (ht : P.underlying t = some D) (hD : aggD D = true) (hi : TI P t z sz by_) (hx : ev ρ x = .pointer (some ⟨g, o, none⟩)) (hB : B w g T cs) (hl : vs.length = sz) (hv : (cs.drop o).take sz = vs) : Rn P ρ ⟨d, .load t x, ty, pos, af, none⟩ w (.agg vs.toArray) := by
  refine la vs ht hD hi hx hl (fun j u hu => ?_)
  rw [add_mk, hB.cell]
  rw [← hv, List.getElem?_take] at hu
  split at hu
  · rwa [List.getElem?_drop] at hu
  · cases hu
theorem one_all {cs : List Value} (h : cs.all (fun u => u.oneCell') = true) : ∀ u, u ∈ cs → u.oneCell' = true := fun u hu => List.all_eq_true.1 h u hu
/-- A store into a block. -/
theorem st {t T : TypeId} {p x : Operand} {g o : Nat} {cs : List Value} {v z : Value} {sz by_ : Nat} (hi : TI P t z sz by_) (hp : ev ρ p = .pointer (some ⟨g, o, none⟩)) (hx : ev ρ x = v) (hB : B w g T cs) (hl : v.cells.toList.length = sz) (ho : o + sz ≤ cs.length) (h1 : ∀ u, u ∈ v.cells.toList → u.oneCell' = true)
    (h : ∀ w', w'.heap.size = w.heap.size → B w' g T (splice cs o v.cells.toList) → Ch [g] w w' → L P n ops rest k Qf (updo ρ d undef) ds w') : L P n ops (⟨d, .store t p x, ty, pos, af, none⟩ :: rest) k Qf ρ ds w := by
  obtain ⟨i0, hi0, hz, hsz, _⟩ := info_parts hi
  have hr := run_storeCells_at P g o T v.cells.toList 0 cs.toArray w hB (by simp only [Nat.add_zero, List.size_toArray]; omega) h1
  simp only [Nat.add_zero] at hr
  refine ops_ (w' := w.setRow g (cs.toArray.toList.take o ++ v.cells.toList ++ cs.toArray.toList.drop (o + v.cells.toList.length)).toArray) rfl ?_ (h _ (by simp [World.setRow]) ?_ (ch_setRow _ _ _))
  · have hl' : v.cells.size = sz := by rw [← hl]; simp
    simp [execOp, Instr.storeAt, Instr.sureAddr, hp, hx, storeVar, sizeOf, typeInfo, hi0, run_program, hsz, hl', hr]
  · have := setRow_heap w g cs.toArray (cs.take o ++ v.cells.toList ++ cs.drop (o + v.cells.toList.length)).toArray T (0, 0) hB
    simpa [B, splice] using this

/-! ### Results that lie in memory -/
theorem ones1 {v : Value} (h : v.oneCell' = true) : ∀ u, u ∈ [v] → u.oneCell' = true := fun u hu => by rw [List.mem_singleton.1 hu]; exact h
theorem st' {t T : TypeId} {p x : Operand} {g o : Nat} {cs vs : List Value} {v z : Value} {sz by_ : Nat} (hi : TI P t z sz by_) (hp : ev ρ p = .pointer (some ⟨g, o, none⟩)) (hx : ev ρ x = v) (hv : v.cells.toList = vs) (hB : B w g T cs) (hl : vs.length = sz) (ho : o + sz ≤ cs.length) (h1 : ∀ u, u ∈ vs → u.oneCell' = true)
    (h : ∀ w', w'.heap.size = w.heap.size → B w' g T (splice cs o vs) → Ch [g] w w' → L P n ops rest k Qf (updo ρ d undef) ds w') : L P n ops (⟨d, .store t p x, ty, pos, af, none⟩ :: rest) k Qf ρ ds w := by
  subst hv
  exact st hi hp hx hB hl ho h1 h
theorem run_cell {t T : TypeId} {D : TypeDesc} {z : Value} {sz by_ g : Nat} {cs : List Value} (ht : P.underlying t = some D) (hD : aggD D = true) (hi : TI P t z sz by_) (hl : cs.length = sz) (hB : B w g T cs) : (loadVar t ⟨g, 0, none⟩).run P w = .ok (.agg cs.toArray) w := by
  obtain ⟨i0, hi0, hz, hsz, _⟩ := info_parts hi
  have hr := run_loadCells_list (P := P) w ⟨g, 0, none⟩ cs (fun j u hu => by rw [add_mk, hB.cell, Nat.zero_add]; exact hu)
  cases D <;> simp [aggD] at hD <;> simp [loadVar, isAgg, run_underlying ht, sizeOf, typeInfo, hi0, run_program, hsz, ← hl, hr]
theorem finc {fn : Func} {Φ : Value → World → Prop} {p : Nat} {t T : TypeId} {D : TypeDesc} {z : Value} {sz by_ g : Nat} {cs : List Value} (hr : fn.results = #[.cell p t]) (ht : P.underlying t = some D) (hD : aggD D = true) (hi : TI P t z sz by_) (hp : ρ p = .pointer (some ⟨g, 0, none⟩)) (hB : B w g T cs) (hl : cs.length = sz)
    (h : Φ (.agg cs.toArray) w) : S P n [] (Fin P fn Φ) ρ [] w := by
  refine fing (v := .agg cs.toArray) (fun tmps ht' => ?_) h
  have e := ht' p
  rw [hp] at e
  simp only [Array.getD_eq_getD_getElem?] at e
  simp [results, hr, e, asAddr, run_cell ht hD hi hl hB]
theorem finct {fn : Func} {Φ : Value → World → Prop} {p u : Nat} {t T : TypeId} {D : TypeDesc} {z v' : Value} {sz by_ g : Nat} {cs : List Value} (hr : fn.results = #[.cell p t, .tmp u]) (ht : P.underlying t = some D) (hD : aggD D = true) (hi : TI P t z sz by_) (hp : ρ p = .pointer (some ⟨g, 0, none⟩)) (hB : B w g T cs) (hl : cs.length = sz) (hu : ρ u = v')
    (h : Φ (.tuple #[.agg cs.toArray, v']) w) : S P n [] (Fin P fn Φ) ρ [] w := by
  refine fing (v := .tuple #[.agg cs.toArray, v']) (fun tmps ht' => ?_) h
  have e := ht' p
  have e2 := ht' u
  rw [hp] at e
  rw [hu] at e2
  simp only [Array.getD_eq_getD_getElem?] at e e2
  simp [results, hr, e, e2, asAddr, run_cell ht hD hi hl hB]
theorem finctt {fn : Func} {Φ : Value → World → Prop} {p u u2 : Nat} {t T : TypeId} {D : TypeDesc} {z v' v2 : Value} {sz by_ g : Nat} {cs : List Value} (hr : fn.results = #[.cell p t, .tmp u, .tmp u2]) (ht : P.underlying t = some D) (hD : aggD D = true) (hi : TI P t z sz by_) (hp : ρ p = .pointer (some ⟨g, 0, none⟩)) (hB : B w g T cs) (hl : cs.length = sz) (hu : ρ u = v') (hu2 : ρ u2 = v2)
    (h : Φ (.tuple #[.agg cs.toArray, v', v2]) w) : S P n [] (Fin P fn Φ) ρ [] w := by
  refine fing (v := .tuple #[.agg cs.toArray, v', v2]) (fun tmps ht' => ?_) h
  have e := ht' p
  have e2 := ht' u
  have e3 := ht' u2
  rw [hp] at e
  rw [hu] at e2
  rw [hu2] at e3
  simp only [Array.getD_eq_getD_getElem?] at e e2 e3
  simp [results, hr, e, e2, e3, asAddr, run_cell ht hD hi hl hB]

/-! ### Rows -/
theorem TI.size {t : TypeId} {z : Value} {sz by_ : Nat} (h : TI P t z sz by_) : ∃ i, P.info? t = some i ∧ i.zero = some z ∧ i.size = sz ∧ i.bytes = by_ := info_parts h
/-- The address of an element, whatever it is. -/
theorem ix {t e : TypeId} {x i : Operand} {z : Value} {sz by_ : Nat} {ad : Addr} {len c j : Nat} {kd : IntKind} (ht : P.underlying t = some (.slice e)) (hi : TI P e z sz by_) (hx : ev ρ x = .slice (some ad) len c) (hj : ev ρ i = .int kd (j : Int)) (hlt : j < len) : Rn P ρ ⟨d, .indexAddr t x i, ty, pos, af, none⟩ w (.pointer (some (ad.add (j * sz)))) := by
  obtain ⟨i0, hi0, hz, hsz, _⟩ := hi.size
  refine ⟨rfl, fun w' _ => ?_⟩
  simp [execOp, Instr.indexAt, asIntOf, hx, hj, run_underlying ht, sizeOf, typeInfo, hi0, run_program, hsz]
  exact fun h' => absurd hlt (by omega)
/-- The element's place: an address that holds its cells. -/
def Plc {α : Type} (dk : Kd α) (w : World) (F : List Nat) (x : α) (ad : Addr) (cs : List Value) : Prop := ∃ Fi, (∀ k, k ∈ Fi → k ∈ F) ∧ dk.K w Fi x cs ∧ ∀ m u, cs[m]? = some u → w.cell? (ad.add m) = some u
theorem Kd.R.place {α : Type} {dk : Kd α} {F : List Nat} {xs : List α} {v : Value} (hR : dk.R w F v xs) (j : Nat) (hlt : j < xs.length) : ∃ c ad cs, v = .slice (some ad) xs.length c ∧ Plc dk w F xs[j] (ad.add (j * dk.sz)) cs := by
  obtain ⟨c, ad, Fi, ci, rfl, hF, hK, hc⟩ := hR.get j hlt
  refine ⟨c, ad, ci, rfl, Fi, hF, hK, fun m u hu => ?_⟩
  rw [add_add]
  exact hc m u hu
theorem Plc.cell {α : Type} {enc : α → Value} {h1 : ∀ x, (enc x).oneCell' = true} {F : List Nat} {x : α} {ad : Addr} {cs : List Value} (h : Plc (Kd.one1 enc h1) w F x ad cs) : w.cell? ad = some (enc x) := by
  obtain ⟨Fi, _, ⟨rfl, rfl⟩, hc⟩ := h
  have := hc 0 (enc x) (by simp)
  rwa [show ad.add 0 = ad by simp [Addr.add]] at this
/-- The address of an element of a row that is read: what lies there. -/
theorem ixR {α : Type} {dk : Kd α} {F : List Nat} {xs : List α} {v : Value} {t e : TypeId} {x i : Operand} {z : Value} {by_ : Nat} {j : Nat} {kd : IntKind} (ht : P.underlying t = some (.slice e)) (hi : TI P e z dk.sz by_) (hx : ev ρ x = v) (hR : dk.R w F v xs) (hj : ev ρ i = .int kd (j : Int)) (hlt : j < xs.length) :
    ∃ ad cs, Plc dk w F xs[j] ad cs ∧ ∀ (d : Option Nat) (ty : TypeId) (pos : String) (af : Array Edge), Rn P ρ ⟨d, .indexAddr t x i, ty, pos, af, none⟩ w (.pointer (some ad)) := by
  obtain ⟨c, ad, cs, rfl, hp⟩ := hR.place j hlt
  exact ⟨_, cs, hp, fun _ _ _ _ => ix ht hi hx hj hlt⟩

/-! ### Building and appending -/
theorem run_bs1 {t e : TypeId} {z x : Value} {sz by_ : Nat} (ht : P.underlying t = some (.slice e)) (hi : TI P e z sz by_) (hz : z.cells.size = sz) (hp : 0 < sz) (hx : x.cells.size = sz) (hs : sz ≤ 1000) (w : World) :
    (Instr.buildSlice t 1 #[(0, x)]).run P w = .ok (.slice (some ⟨w.heap.size, 0, none⟩) 1 1) (w.alloc (.cells x.cells e)) := by
  obtain ⟨i0, hi0, hz0, hsz, _⟩ := hi.size
  have hfill : ∀ (l : List Value) (cs : Array Value) (o : Nat), o + l.length ≤ cs.size → (l.zipIdx o).foldl (fun cs (p : Value × Nat) => cs.setIfInBounds (0 + p.2) p.1) cs = (cs.toList.take o ++ l ++ cs.toList.drop (o + l.length)).toArray := by
    intro l
    induction l with
    | nil => intro cs o ho; simp
    | cons a l ih =>
      intro cs o ho
      simp only [List.zipIdx_cons, List.foldl_cons, Nat.zero_add]
      have hlt : o < cs.size := by simp at ho; omega
      have := ih (cs.setIfInBounds o a) (o + 1) (by simp at ho ⊢; omega)
      simp only [Nat.zero_add] at this
      rw [this, Array.toList_setIfInBounds]
      have e := list_seg_step cs.toList o a l (by simp at ho ⊢; omega)
      simpa [Nat.add_assoc, Nat.add_comm 1] using e
  have hf := hfill x.cells.toList ((Array.range (1 * sz)).map (z.cells[· % z.cells.size]!)) 0 (by simp [hx])
  simp only [List.take_zero, List.nil_append, Nat.zero_add, Array.length_toList] at hf
  rw [List.drop_of_length_le (by simp [hx]), List.append_nil, Array.toArray_toList] at hf
  have hne : ¬ sz = 0 := by omega
  have hle : ¬ (16777216 < sz) := by omega
  have hz' : z.cells.size = i0.size := by rw [hz, hsz]
  have hx' : x.cells.size = i0.size := by rw [hx, hsz]
  subst hsz
  simp only [Nat.one_mul] at hf
  have hzip : x.cells.zipIdx.foldl (fun (cs : Array Value) (p : Value × Nat) => cs.setIfInBounds (0 + p.2) p.1) ((Array.range i0.size).map (z.cells[· % z.cells.size]!)) = x.cells := by
    rw [← Array.foldl_toList, Array.toList_zipIdx]
    simpa using hf
  simp only [Nat.zero_add] at hzip
  simp [Instr.buildSlice, run_underlying ht, sizeOf, typeInfo, hi0, run_program, hne, hle, zeroValue, hz0, Instr.fill, hx', newRow]
  congr 2
  simpa [hx'] using hzip
theorem bs0 {t e : TypeId} {z : Value} {sz by_ : Nat} (ht : P.underlying t = some (.slice e)) (hi : TI P e z sz by_)
    (h : ∀ v w', (∀ {α : Type} (dk : Kd α), dk.sz = sz → ∃ F, dk.W e w' F v [] ∧ F.Nodup ∧ ∀ k, k ∈ F → w.heap.size ≤ k) → Ch [] w w' → w.heap.size ≤ w'.heap.size → L P n ops rest k Qf (updo ρ d v) ds w') : L P n ops (⟨d, .buildSlice t 0 #[], ty, pos, af, none⟩ :: rest) k Qf ρ ds w := by
  obtain ⟨i0, hi0, hz0, hsz, _⟩ := hi.size
  refine opv (v := .slice (some ⟨w.heap.size, 0, none⟩) 0 0) (w' := w.alloc (.cells #[] e)) rfl ?_ (h _ _ ?_ (ch_alloc _ _) (by simp))
  · simp [execOp, Instr.buildSlice, run_underlying ht, sizeOf, typeInfo, hi0, run_program, Instr.fill, newRow]
    congr 2
    exact Array.eq_empty_of_size_eq_zero (by simp)
  · intro α dk hdk
    refine ⟨[w.heap.size], ⟨[], [], World.ownsRow_made w #[] 0 (Nat.zero_le _) (by unfold maxLen; omega) (by simp), by simp [Value.ownBlock], rfl, rfl⟩, by simp, fun k hk => ?_⟩
    rw [List.mem_singleton.1 hk]
    exact Nat.le_refl _
end

/-! ### Regions that draw their order and only read -/
section
variable {P : Program} {n : Nat} {k : List It} {Qf : Exit → Act → World → Prop} {ρ : Fr} {ds : List Deferred} {w : World}
variable {ops : Array Oper} {rest : List Oper} {K : Fr → Prop}
def M (P : Program) (n : Nat) (ds : List Deferred) (ops : Array Oper) (rest : List Oper) (ρ : Fr) (w : World) (K : Fr → Prop) : Prop :=
  okl n rest = true → ∀ a, Sim n ρ ds a → wpQuiet P ops (fun w' => Ch [] w w') (fun a' => ∃ ρ', Sim n ρ' ds a' ∧ K ρ') rest a
theorem me (h : K ρ) : M P n ds ops [] ρ w K := fun _ a ha => ⟨ρ, ha, h⟩
theorem q {o : Oper} {v : Value} (hr : Rn P ρ o w v) (h : M P n ds ops rest (updo ρ o.dst v) w K) : M P n ds ops (o :: rest) ρ w K := by
  intro hl a ha
  simp only [okl, Bool.and_eq_true] at hl
  have hw : Region.wanted o (yielded ops a.tmps) = true := by simp [Region.wanted, hr.1]
  simp only [wpQuiet, hw, if_true]
  refine ⟨v, fun w' hc => ?_, h hl.2 _ (ha.put o.dst hl.1 v)⟩
  unfold Oper.quietAt
  rw [ha.eval, hr.2 w' hc]
  exact ⟨rfl, rfl⟩
/-- A call that comes to the same in whatever world. -/
theorem clq {d : Option Nat} {ty : TypeId} {pos : String} {af : Array Edge} {f : FuncId} {xs : Array Operand} {vs : List Value} {ts : Array TypeId} (v : Value) (hg : Goes P f) (hc : ∀ w', Ch [] w w' → Ret P f vs.toArray w' (fun r w2 => r = v ∧ Ch [] w' w2)) (hx : xs.toList.map (ev ρ) = vs) (h : M P n ds ops rest (updo ρ d v) w K) :
    M P n ds ops (⟨d, .call ⟨.value (.func f), xs, ts⟩, ty, pos, af, none⟩ :: rest) ρ w K := by
  intro hl a ha
  simp only [okl, Bool.and_eq_true] at hl
  simp only [wpQuiet, Region.wanted, if_true]
  refine ⟨v, fun w' hw => ?_, h hl.2 _ (ha.put d hl.1 v)⟩
  unfold Oper.quietAt
  have hrun : (execOp a.eval ⟨d, .call ⟨.value (.func f), xs, ts⟩, ty, pos, af, none⟩).run P w' = .ok (.enter f vs.toArray) w' := by
    rw [ha.eval, ← arr hx]
    simp [execOp, resolve, Deferred.ofValue, invoke, ev, hg _ w']
  rw [hrun]
  refine ⟨rfl, Calls.mono (hc w' hw) fun e w2 ⟨r, he, hr, hc2⟩ => ?_⟩
  subst he
  exact ⟨by rw [hr], hw.t hc2⟩
def vb : Value → Option Bool
  | .bool b => some b
  | _ => none
theorem yld {a : Act} {j t : Nat} {v : Value} (ha : Sim n ρ ds a) (hj : (ops[j]?).bind (·.dst) = some t) (ht : ρ t = v) (hn : Nat.blt t n = true) : yielded ops a.tmps j = vb v := by
  have hlt : t < a.tmps.size := by rw [ha.size]; simpa [Nat.blt_eq] using hn
  have h1 := ha.slot t
  rw [ht, Array.getD_eq_getD_getElem?, Array.getElem?_eq_getElem hlt] at h1
  simp only [Option.getD_some] at h1
  simp only [yielded, hj, Option.bind_some, Array.getElem?_eq_getElem hlt, h1]
  cases v <;> rfl
theorem gyq {d : Option Nat} {op : Op} {ty : TypeId} {pos : String} {af : Array Edge} {j t : Nat} {b : Bool} (hj : (ops[j]?).bind (·.dst) = some t) (ht : ρ t = .bool b) (hn : Nat.blt t n = true)
    (h : M P n ds ops (⟨d, op, ty, pos, af, none⟩ :: rest) ρ w K) : M P n ds ops (⟨d, op, ty, pos, af, some (j, b)⟩ :: rest) ρ w K := by
  intro hl a ha
  have hy := yld (ops := ops) ha hj ht hn
  have := h hl a ha
  simp only [wpQuiet, Region.wanted, hy, vb, beq_self_eq_true, if_true] at this ⊢
  exact this
theorem gnq {d : Option Nat} {op : Op} {ty : TypeId} {pos : String} {af : Array Edge} {j t : Nat} {b : Bool} (hj : (ops[j]?).bind (·.dst) = some t) (ht : ρ t = .bool (!b)) (hn : Nat.blt t n = true)
    (h : M P n ds ops rest (updo ρ d undef) w K) : M P n ds ops (⟨d, op, ty, pos, af, some (j, b)⟩ :: rest) ρ w K := by
  intro hl a ha
  simp only [okl, Bool.and_eq_true] at hl
  have hy := yld (ops := ops) ha hj ht hn
  have hne : ¬ Region.wanted ⟨d, op, ty, pos, af, some (j, b)⟩ (yielded ops a.tmps) = true := by cases b <;> simp [Region.wanted, hy, vb]
  unfold wpQuiet
  rw [if_neg hne]
  exact h hl.2 _ (ha.put d hl.1 undef)
theorem guq {d : Option Nat} {op : Op} {ty : TypeId} {pos : String} {af : Array Edge} {j t : Nat} {b : Bool} (hj : (ops[j]?).bind (·.dst) = some t) (ht : ρ t = undef) (hn : Nat.blt t n = true)
    (h : M P n ds ops rest (updo ρ d undef) w K) : M P n ds ops (⟨d, op, ty, pos, af, some (j, b)⟩ :: rest) ρ w K := by
  intro hl a ha
  simp only [okl, Bool.and_eq_true] at hl
  have hy := yld (ops := ops) ha hj ht hn
  have hne : ¬ Region.wanted ⟨d, op, ty, pos, af, some (j, b)⟩ (yielded ops a.tmps) = true := by simp [Region.wanted, hy, undef, vb]
  unfold wpQuiet
  rw [if_neg hne]
  exact h hl.2 _ (ha.put d hl.1 undef)
theorem wpQuiet_mono_ {C : World → Prop} {Q Q' : Act → Prop} (h : ∀ a, Q a → Q' a) : ∀ (l : List Oper) (a : Act), wpQuiet P ops C Q l a → wpQuiet P ops C Q' l a
  | [], a, hq => h a hq
  | o :: l, a, hq => by
    unfold wpQuiet at hq ⊢
    split
    · rename_i hw; rw [if_pos hw] at hq; exact Oper.quiet_mono (fun a' => wpQuiet_mono_ h l a') hq
    · rename_i hw; rw [if_neg hw] at hq; exact wpQuiet_mono_ h l _ hq
theorem spq (t : Nat) {p : Prop} [Decidable p] (ht : ρ t = .bool (decide p)) (hT : p → M P n ds ops rest (upd ρ t (.bool true)) w K) (hF : ¬ p → M P n ds ops rest (upd ρ t (.bool false)) w K) : M P n ds ops rest ρ w K := by
  by_cases h : p
  · have := hT h; rwa [upd_self ρ t _ (by rw [ht, decide_eq_true h])] at this
  · have := hF h; rwa [upd_self ρ t _ (by rw [ht, decide_eq_false h])] at this
theorem spnq (t : Nat) {p : Prop} [Decidable p] (ht : ρ t = .bool (!decide p)) (hT : ¬ p → M P n ds ops rest (upd ρ t (.bool true)) w K) (hF : p → M P n ds ops rest (upd ρ t (.bool false)) w K) : M P n ds ops rest ρ w K := by
  by_cases h : p
  · have := hF h; rwa [upd_self ρ t _ (by rw [ht, decide_eq_true h]; rfl)] at this
  · have := hT h; rwa [upd_self ρ t _ (by rw [ht, decide_eq_false h]; rfl)] at this
theorem spbq (t : Nat) {b : Bool} (ht : ρ t = .bool b) (hT : b = true → M P n ds ops rest (upd ρ t (.bool true)) w K) (hF : b = false → M P n ds ops rest (upd ρ t (.bool false)) w K) : M P n ds ops rest ρ w K := by
  cases b
  · have := hF rfl; rwa [upd_self ρ t _ ht] at this
  · have := hT rfl; rwa [upd_self ρ t _ ht] at this
/-- The region: one walk of the text's order; then in whatever world has come of it. -/
theorem rd {id : Nat} {l : List Oper} (hm : P.follows .mixedOrders = true) (hB : Region.lexB .any l.toArray = true)
    (h : M P n ds l.toArray l ρ w (fun ρ' => ∀ w', Ch [] w w' → S P n k Qf ρ' ds w')) : S P n (.c (.region id l.toArray true) :: k) Qf ρ ds w := by
  intro hk a ha
  simp only [okk, okc, Bool.and_eq_true] at hk
  refine wp_region_quiet (C := fun w' => Ch [] w w') hm hB (ch_drew w _) ?_
  have := h hk.1 a ha
  simp only at this ⊢
  refine wpQuiet_mono_ (fun a' ⟨ρ', hs, hK⟩ w' hw' => hK w' hw' hk.2 a' hs) _ _ this
end
end Go.Eng
