/-
  DEFERRED CALLS AND recover, OF MY OWN: a function that defers one function literal; that literal, whose first statement is recover(). Over any program. No condition.
-/
import Derived.Test.YtgpcanjmgdmdhaaDoorEx
import Derived.Recover
namespace Go.Eng
set_option linter.unusedVariables false
set_option linter.unusedSimpArgs false
section
variable {P : Program} {n : Nat} {k : List It} {Qf : Exit → Act → World → Prop} {ρ : Fr} {ds : List Deferred} {w : World} {ops : Array Oper} {rest : List Oper} {d : Option Nat} {ty : TypeId} {pos : String} {af : Array Edge}
/-- The deferred call of a function literal without arguments. -/
abbrev dcall (f : FuncId) (cap : List Value) : Deferred := { target := .fn (.func f) cap.toArray, args := #[] }
theorem dfr {x : Operand} {f : FuncId} {cap : List Value} (hx : ev ρ x = .func (.func f) #[] cap.toArray) (h : L P n ops rest k Qf (updo ρ d undef) (dcall f cap :: ds) w) : L P n ops (⟨d, .defer ⟨.value x, #[], #[]⟩, ty, pos, af, none⟩ :: rest) k Qf ρ ds w := by
  intro hl hk a ha
  simp only [okl, Bool.and_eq_true] at hl
  refine wpList_plain rfl fun K hK => ?_
  unfold Oper.wp
  have hrun : (execOp (ev ρ) ⟨d, .defer ⟨.value x, #[], #[]⟩, ty, pos, af, none⟩).run P w = .ok (.defer (dcall f cap)) w := by
    simp [execOp, resolve, Deferred.ofValue, hx]
  rw [ha.eval, hrun]
  refine hK _ _ (h hl.2 hk _ ?_)
  have ha' : Sim n ρ (dcall f cap :: ds) { a with defers := dcall f cap :: a.defers } := ⟨ha.size, by simp [ha.defers], ha.slot⟩
  exact ha'.put d hl.1 undef
def FinD (P : Program) (fn : Func) (Φ : Value → World → Prop) : Exit → Act → World → Prop := bodyPostD P fn fun e w' => ∃ v, e = .returned v ∧ Φ v w'
theorem enterD {f : FuncId} {fn : Func} {c : Code} {args : Array Value} {Φ : Value → World → Prop} (hf : P.funcs[f]? = some fn) (hb : fn.body = some c) (hn : fn.ntmps = n)
    (hok : okc n c = true) (hs : Nat.ble args.size n = true) (h : S P n [.c c] (FinD P fn Φ) (ini args) [] w) : Ret P f args w Φ := by
  refine calls_of_wp_defers hf hb ?_
  have hs' : args.size ≤ n := Nat.le_of_ble_eq_true hs
  refine h (by simp [okk, hok]) _ ⟨by simp [hn]; omega, rfl, fun t => ?_⟩
  simp only [ini, Array.getD_eq_getD_getElem?, Array.getElem?_append]
  split
  · rfl
  · rename_i hlt
    rw [Array.getElem?_eq_none (Nat.le_of_not_lt hlt)]
    simp only [Array.getElem?_replicate]
    split <;> rfl
/-- The deferred call comes back, and the panic, if there was one, is over. -/
def Dfd (P : Program) (f : FuncId) (cap : List Value) (u : FrameMode) (w : World) (Ψ : World → Prop) : Prop := CallsD P f cap.toArray u w (fun e u' w' => (∃ v, e = .returned v) ∧ settle u' = .returning ∧ Ψ w')
theorem leaves_dfd {fn : Func} {Φ : Value → World → Prop} {f : FuncId} {cap : List Value} {u : FrameMode} {Ψ : World → Prop} {a : Act} (hu : u ≠ .run) (hg : Goes P f) (hc : Dfd P f cap u w Ψ) (h : ∀ w', Ψ w' → S P n [] (Fin P fn Φ) ρ [] w') (ha : Sim n ρ [dcall f cap] a) :
    Leaves P fn a.tmps (fun e w' => ∃ v, e = .returned v ∧ Φ v w') a.defers u w := by
  rw [ha.defers]
  refine leaves_cons (f := f) (args := cap.toArray) hu (by simp [invoke, hg _ w]) (CallsD.mono (show CallsD P f cap.toArray u w (fun e u' w' => (∃ v, e = .returned v) ∧ settle u' = .returning ∧ Ψ w') from hc) fun e u' w' hh => ?_)
  obtain ⟨⟨v, he⟩, hs, hΨ⟩ := hh
  subst he
  simp only [hs]
  obtain ⟨_, v', hr, hR⟩ := h w' hΨ rfl { a with defers := [] } ⟨ha.size, rfl, ha.slot⟩
  exact ⟨v', hr, hR⟩
theorem finD {fn : Func} {Φ : Value → World → Prop} {f : FuncId} {cap : List Value} {Ψ : World → Prop} (hg : Goes P f) (hc : Dfd P f cap .returning w Ψ) (h : ∀ w', Ψ w' → S P n [] (Fin P fn Φ) ρ [] w') : S P n [] (FinD P fn Φ) ρ [dcall f cap] w :=
  fun _ a ha => leaves_dfd (by simp) hg hc h ha
theorem finDp {fn : Func} {Φ : Value → World → Prop} {f : FuncId} {cap : List Value} {Ψ : World → Prop} {c : List PanicEntry} {a : Act} (hg : Goes P f) (hc : Dfd P f cap (.panicking c) w Ψ) (h : ∀ w', Ψ w' → S P n [] (Fin P fn Φ) ρ [] w') (ha : Sim n ρ [dcall f cap] a) : FinD P fn Φ (.panic c) a w :=
  leaves_dfd (by simp) hg hc h ha
theorem rtd {fn : Func} {Φ : Value → World → Prop} (h : S P n [] (FinD P fn Φ) ρ ds w) : S P n (.c .ret :: k) (FinD P fn Φ) ρ ds w :=
  fun hk a ha => wp_ret (den_ret k a w (h rfl a ha))
/-- A result of one cell that lies in memory. -/
theorem fincs {fn : Func} {Φ : Value → World → Prop} {p : Nat} {t T : TypeId} {D : TypeDesc} {g : Nat} {cs : List Value} {v : Value} (hr : fn.results = #[.cell p t]) (ht : P.underlying t = some D) (hD : aggD D = false) (hp : ρ p = .pointer (some ⟨g, 0, none⟩)) (hB : B w g T cs) (hc : cs[0]? = some v) (h : Φ v w) : S P n [] (Fin P fn Φ) ρ [] w := by
  refine fing (v := v) (fun tmps ht' => ?_) h
  have e := ht' p
  rw [hp] at e
  simp only [Array.getD_eq_getD_getElem?] at e
  have hc' : w.cell? ⟨g, 0, none⟩ = some v := (hB.cell 0).trans hc
  have hl : (loadVar t ⟨g, 0, none⟩).run P w = .ok v w := by
    cases D <;> simp [aggD] at hD <;> simp [loadVar, isAgg, run_underlying ht, hc']
  simp [results, hr, e, asAddr, hl]
/-! ### A function literal that is deferred and begins with recover() -/
theorem recS {f : FuncId} {fn : Func} {id : Nat} {t : Nat} {y : Code} {args : Array Value} {ty : TypeId} {pos : String} {af : Array Edge} {ts : Array TypeId} {Φ : Value → World → Prop} {u u1 : FrameMode} {v : Value} (hf : P.funcs[f]? = some fn) (hb : fn.body = some (.seq (.region id #[⟨some t, .call ⟨.builtin .recover, #[], ts⟩, ty, pos, af, none⟩] false) y)) (hn : fn.ntmps = n)
    (hok : (Nat.blt t n && okc n y) = true) (hs : Nat.ble args.size n = true) (hv : (match u with | .panicking ({ v := v', recovered := false, goexit := false } :: older) => (v', FrameMode.panicking ({ v := v', recovered := true } :: older)) | u => (.nilIface, u)) = (v, u1)) (h : S P n [.c y] (Fin P fn Φ) (upd (ini args) t v) [] w) :
    CallsD P f args u w (fun e u' w' => (∃ r, e = .returned r ∧ Φ r w') ∧ u' = u1) := by
  simp only [Bool.and_eq_true] at hok
  refine callsD_of_wpS hf hb fun c₀ cs hu => ?_
  refine wpS_seq (wpS_region ?_)
  have hs' : args.size ≤ n := Nat.le_of_ble_eq_true hs
  have hsim : Sim n (ini args) [] { tmps := args ++ Array.replicate (fn.ntmps - args.size) undef, defers := [] } := by
    refine ⟨by simp [hn]; omega, rfl, fun t => ?_⟩
    simp only [ini, Array.getD_eq_getD_getElem?, Array.getElem?_append]
    split
    · rfl
    · rename_i hlt
      rw [Array.getElem?_eq_none (Nat.le_of_not_lt hlt)]
      simp only [Array.getElem?_replicate]
      split <;> rfl
  generalize ({ tmps := args ++ Array.replicate (fn.ntmps - args.size) undef, defers := [] } : Act) = a at hsim
  have hrun : ∀ (e : Operand → Value), (execOp e ⟨some t, .call ⟨.builtin .recover, #[], ts⟩, ty, pos, af, none⟩).run P w = .ok .recover w := fun e => by simp [execOp, resolve, invoke, builtin]
  have key : ∀ cs', cs' = { c₀ with mode := u1 } :: cs → y.wpS P (bodyPostS P fn c₀ cs (fun e u' w' => (∃ r, e = .returned r ∧ Φ r w') ∧ u' = u1)) (a.put (some t) v) cs' w := by
    intro cs' hcs
    refine wpS_of_wp (wp_mono (h (by simp [okk, hok.2]) _ (hsim.put (some t) (by simpa [okd] using hok.1) v)) fun e a' w' he => ?_)
    cases e with
    | normal =>
      obtain ⟨h1, r, h2, r', h3, h4⟩ := he
      exact ⟨h1, u1, hcs, r, h2, ⟨r', h3, h4⟩, rfl⟩
    | ret =>
      obtain ⟨h1, r, h2, r', h3, h4⟩ := he
      exact ⟨h1, u1, hcs, r, h2, ⟨r', h3, h4⟩, rfl⟩
    | panic c => obtain ⟨_, r, h2, _⟩ := he; cases h2
    | outgrown => obtain ⟨r, h2, _⟩ := he; cases h2
    | exit id => exact he
    | goto l => exact he
  simp only [List.size_toArray, List.length_cons, List.length_nil, Nat.zero_add, List.range_one, wpOpsS, List.getElem?_toArray, List.getElem?_cons_zero, Region.wanted, if_true, hrun]
  have hc₀ : ({ c₀ with mode := u } : Frame) = c₀ := by subst hu; rfl
  subst hu
  simp only [recoverD]
  split
  · rename_i v' older cs' hrec
    split at hrec
    · rename_i v'' older' hm
      simp only [Option.some.injEq, Prod.mk.injEq] at hrec
      obtain ⟨rfl, rfl⟩ := hrec
      simp only [hm, Prod.mk.injEq] at hv
      obtain ⟨rfl, rfl⟩ := hv
      exact key _ rfl
    · cases hrec
  · rename_i hrec
    split at hrec
    · cases hrec
    · rename_i hm
      have : v = .nilIface ∧ u1 = c₀.mode := by
        revert hv
        split
        · rename_i v' older hm'
          exact absurd hm' (hm v' older)
        · intro e
          simp only [Prod.mk.injEq] at e
          exact ⟨e.1.symm, e.2.symm⟩
      obtain ⟨rfl, rfl⟩ := this
      exact key _ rfl
theorem Dfd.of {f : FuncId} {cap : List Value} {u u1 : FrameMode} {Φ : Value → World → Prop} {Ψ : World → Prop} (h : CallsD P f cap.toArray u w (fun e u' w' => (∃ r, e = .returned r ∧ Φ r w') ∧ u' = u1)) (hu : settle u1 = .returning) (hΨ : ∀ r w', Φ r w' → Ψ w') : Dfd P f cap u w Ψ :=
  CallsD.mono h fun e u' w' ⟨⟨r, he, hr⟩, h1⟩ => ⟨⟨r, he⟩, h1 ▸ hu, hΨ r w' hr⟩
/-- A type assertion with comma-ok, at a value of just that type. -/
theorem tas {x : Operand} {xt t : TypeId} {v : Value} {D : TypeDesc} (ht : P.underlying t = some D) (hD : ifD D = false) (hx : ev ρ x = .iface t v) : Rn P ρ ⟨d, .typeAssert x xt t true, ty, pos, af, none⟩ w (.tuple #[v, .bool true]) := by
  refine ⟨rfl, fun w' _ => ?_⟩
  cases D <;> simp [ifD] at hD <;> simp [execOp, hx, Instr.typeAssert, run_underlying ht]
theorem run_eqIn_iface {t tv : TypeId} {v : Value} {ms : Array (String × TypeId)} (ht : P.underlying t = some (.interface ms)) (m : Nat) (w : World) : (Op.equalIn (m + 1) t (.iface tv v) .nilIface).run P w = .ok false w := by
  simp only [Op.equalIn, Sem.run_bind, run_underlying ht, Result.andThen_ok, Sem.run_pure]
theorem run_eqIn_nil {t : TypeId} {ms : Array (String × TypeId)} (ht : P.underlying t = some (.interface ms)) (m : Nat) (w : World) : (Op.equalIn (m + 1) t .nilIface .nilIface).run P w = .ok true w := by
  simp only [Op.equalIn, Sem.run_bind, run_underlying ht, Result.andThen_ok, Sem.run_pure]
/-- An interface value against nil. -/
theorem ien {x : Operand} {t u tv : TypeId} {v : Value} {ms : Array (String × TypeId)} (ht : P.underlying t = some (.interface ms)) (hx : ev ρ x = .iface tv v) : Rn P ρ ⟨d, .binOp .eql t x (.const .nilIface) u, ty, pos, af, none⟩ w (.bool false) := by
  refine ⟨rfl, fun w' _ => ?_⟩
  have h1 : (Op.equal t (.iface tv v) .nilIface).run P w' = .ok false w' := run_eqIn_iface ht 9999 w'
  have h2 : (eqGuard .eql t x (.const .nilIface) (.iface tv v) .nilIface).run P w' = .ok () w' := by simp [eqGuard]
  have h3 : binOp .eql t (.iface tv v) .nilIface = (do pure (.bool (← Op.equal t (.iface tv v) .nilIface))) := rfl
  simp only [execOp, hx, show ev ρ (.const .nilIface) = .nilIface from rfl, Sem.run_bind, h2, Result.andThen_ok, h3, h1, Sem.run_pure]
theorem inn {x : Operand} {t u : TypeId} {ms : Array (String × TypeId)} (ht : P.underlying t = some (.interface ms)) (hx : ev ρ x = .nilIface) : Rn P ρ ⟨d, .binOp .eql t x (.const .nilIface) u, ty, pos, af, none⟩ w (.bool true) := by
  refine ⟨rfl, fun w' _ => ?_⟩
  have h1 : (Op.equal t .nilIface .nilIface).run P w' = .ok true w' := run_eqIn_nil ht 9999 w'
  have h2 : (eqGuard .eql t x (.const .nilIface) .nilIface .nilIface).run P w' = .ok () w' := by simp [eqGuard]
  have h3 : binOp .eql t .nilIface .nilIface = (do pure (.bool (← Op.equal t .nilIface .nilIface))) := rfl
  simp only [execOp, hx, show ev ρ (.const .nilIface) = .nilIface from rfl, Sem.run_bind, h2, Result.andThen_ok, h3, h1, Sem.run_pure]
end
end Go.Eng
