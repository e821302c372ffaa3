/-
  TWO RESOURCES AS ONE, SOME RESOURCE OR OTHER, A BLOCK WHATEVER IT HOLDS; a call in a drawn region that may panic. OF MY OWN. Over any program. No condition.
-/
import Derived.Test.YtgpcanjmgdmdhaaDoorDef
namespace Go.Eng
set_option linter.unusedVariables false
set_option linter.unusedSimpArgs false
def rP (a b : Rs) : Rs where
  P w F := ∃ F1 F2, F = F1 ++ F2 ∧ a.P w F1 ∧ b.P w F2
  mv := by
    rintro w w' F hm ⟨F1, F2, rfl, h1, h2⟩
    exact ⟨F1, F2, rfl, a.mv (fun k hk => hm k (List.mem_append_left _ hk)) h1, b.mv (fun k hk => hm k (List.mem_append_right _ hk)) h2⟩
  lt := by
    rintro w F ⟨F1, F2, rfl, h1, h2⟩ k hk
    rcases List.mem_append.1 hk with hk | hk
    · exact a.lt h1 k hk
    · exact b.lt h2 k hk
/-- A block, whatever it holds. -/
def rAn (g : Nat) (T : TypeId) : Rs := exR (fun cs : List Value => rB g T cs)
/-- A plain fact beside a resource. -/
def rF (p : Prop) (a : Rs) : Rs where
  P w F := p ∧ a.P w F
  mv := fun hm h => ⟨h.1, a.mv hm h.2⟩
  lt := fun h => a.lt h.2
section
variable {w0 w w' : World} {F0 : List Nat} {Γ Δ : List Rs} {i : Nat}
theorem Hold.pair {a b : Rs} (H : Hold w0 F0 w (a :: b :: Γ)) : Hold w0 F0 w (rP a b :: Γ) := by
  obtain ⟨F, ⟨F1, _, rfl, h1, F2, F3, rfl, h2, h3⟩, T⟩ := H
  rw [← List.append_assoc] at T
  exact ⟨(F1 ++ F2) ++ F3, ⟨F1 ++ F2, F3, rfl, ⟨F1, F2, rfl, h1, h2⟩, h3⟩, T⟩
theorem Hold.unpair {a b : Rs} (H : Hold w0 F0 w (rP a b :: Γ)) : Hold w0 F0 w (a :: b :: Γ) := by
  obtain ⟨F, ⟨_, F3, rfl, ⟨F1, F2, rfl, h1, h2⟩, h3⟩, T⟩ := H
  rw [List.append_assoc] at T
  exact ⟨F1 ++ (F2 ++ F3), ⟨F1, F2 ++ F3, rfl, h1, F2, F3, rfl, h2, h3⟩, T⟩
theorem Hold.exi {β : Type} {r : β → Rs} (b : β) (H : Hold w0 F0 w (r b :: Γ)) : Hold w0 F0 w (exR r :: Γ) := by
  obtain ⟨F, ⟨F1, F2, rfl, h1, h2⟩, T⟩ := H
  exact ⟨F1 ++ F2, ⟨F1, F2, rfl, ⟨b, h1⟩, h2⟩, T⟩
theorem Hold.exe {β : Type} {r : β → Rs} (H : Hold w0 F0 w (exR r :: Γ)) : ∃ b, Hold w0 F0 w (r b :: Γ) := by
  obtain ⟨F, ⟨F1, F2, rfl, ⟨b, h1⟩, h2⟩, T⟩ := H
  exact ⟨b, F1 ++ F2, ⟨F1, F2, rfl, h1, h2⟩, T⟩
theorem Hold.facti {p : Prop} {a : Rs} (hp : p) (H : Hold w0 F0 w (a :: Γ)) : Hold w0 F0 w (rF p a :: Γ) := by
  obtain ⟨F, ⟨F1, F2, rfl, h1, h2⟩, T⟩ := H
  exact ⟨F1 ++ F2, ⟨F1, F2, rfl, ⟨hp, h1⟩, h2⟩, T⟩
theorem Hold.facte {p : Prop} {a : Rs} (H : Hold w0 F0 w (rF p a :: Γ)) : p ∧ Hold w0 F0 w (a :: Γ) := by
  obtain ⟨F, ⟨F1, F2, rfl, ⟨hp, h1⟩, h2⟩, T⟩ := H
  exact ⟨hp, F1 ++ F2, ⟨F1, F2, rfl, h1, h2⟩, T⟩
theorem Hold.an {g : Nat} {T : TypeId} {cs : List Value} (H : Hold w0 F0 w (rB g T cs :: Γ)) : Hold w0 F0 w (rAn g T :: Γ) := Hold.exi (r := fun cs : List Value => rB g T cs) cs H
/-- The first alone. -/
theorem Hold.only {r : Rs} (H : Hold w0 F0 w (r :: Γ)) : Hold w0 F0 w [r] := Hold.drop (Γ := [r]) (Δ := Γ) H
end
section
variable {P : Program} {n : Nat} {k : List It} {Qf : Exit → Act → World → Prop} {ρ : Fr} {ds : List Deferred} {w : World} {ops : Array Oper} {K : Fr → World → Prop} {Kp : List PanicEntry → World → Prop} {S' : World → Prop} {fuel : Nat} {listed : Array Bool}
/-- A call in a drawn region that may panic. -/
theorem eucp {i : Nat} {d : Option Nat} {ty : TypeId} {pos : String} {af : Array Edge} {f : FuncId} {xs : Array Operand} {vs : List Value} {ts : Array TypeId} {Φ : Value → World → Prop} {Ψ : List PanicEntry → World → Prop} (hi : ops[i]? = some ⟨d, .call ⟨.value (.func f), xs, ts⟩, ty, pos, af, none⟩) (hg : Goes P f) (hx : xs.toList.map (ev ρ) = vs) (hc : RetP P f vs.toArray w Φ Ψ)
    (hp : ∀ c w2, Ψ c w2 → Kp c w2)
    (h : ∀ v w', Φ v w' → ((listed.setIfInBounds i true).all id = true ∨ S' w') ∧ De P n ops K Kp S' fuel (listed.setIfInBounds i true) (updo ρ d v) ds w') : Ue P n ops K Kp S' fuel listed i ρ ds w := by
  intro hl a ha
  have hrun : (execOp (ev ρ) ⟨d, .call ⟨.value (.func f), xs, ts⟩, ty, pos, af, none⟩).run P w = .ok (.enter f vs.toArray) w := by
    rw [← arr hx]
    simp [execOp, resolve, Deferred.ofValue, invoke, ev, hg _ w]
  unfold wpOp
  simp only [hi, Region.wanted, if_true]
  refine .inl ?_
  unfold Oper.wp
  rw [ha.eval, hrun]
  refine Calls.mono hc fun e w' hh => ?_
  rcases hh with ⟨v, he, hv⟩ | ⟨c, he, hv⟩
  · subst he
    obtain ⟨h1, h2⟩ := h v w' hv
    exact ⟨h1, fun hcl => h2 hl hcl h1 _ (ha.put d (okl_at hl (by simpa using hi)) v)⟩
  · subst he
    exact ⟨⟨ρ, ha⟩, hp c w' hv⟩
end
section
variable {P : Program} {ρ : Fr} {w : World} {d : Option Nat} {ty : TypeId} {pos : String} {af : Array Edge}
theorem mn2 {x y : Operand} {kd kd' : IntKind} {a b : Int} {ts : Array TypeId} (c : Int) (hx : ev ρ x = .int kd a) (hy : ev ρ y = .int kd' b) (hc : (if b < a then b else a) = c) : Rn P ρ ⟨d, .call ⟨.builtin .min, #[x, y], ts⟩, ty, pos, af, none⟩ w (.int kd c) := by
  subst hc
  exact ⟨rfl, fun w' _ => by simp [execOp, resolve, invoke, builtin, hx, hy, Builtin.min_, Builtin.min2]⟩
end
section
variable {P : Program} {n : Nat} {k : List It} {Qf : Exit → Act → World → Prop} {ρ : Fr} {ds : List Deferred} {w : World}
/-- The ways through a piece of code meet again behind it. -/
def Meet {α : Type} (n : Nat) (ds : List Deferred) (I : α → Fr → World → Prop) : Act → World → Prop := fun a w => ∃ x ρ, Sim n ρ ds a ∧ I x ρ w
theorem jn {α : Type} {c : Code} (I : α → Fr → World → Prop) (h : S P n (.c c :: .l (Meet n ds I) :: k) Qf ρ ds w) (h2 : ∀ x ρ' w', I x ρ' w' → S P n k Qf ρ' ds w') : S P n (.c c :: k) Qf ρ ds w := by
  intro hk a ha
  simp only [okk, Bool.and_eq_true] at hk
  have hb := h (by simp [okk, hk]) a ha
  refine wp_mono hb (fun e a' w' he => ?_)
  cases e with
  | normal => obtain ⟨x, ρ', hs, hI⟩ := he; exact h2 x ρ' w' hI hk.2 a' hs
  | exit id => exact he
  | goto l => exact he
  | ret => exact he
  | panic ch => exact he
  | outgrown => exact he
theorem je {α : Type} {I : α → Fr → World → Prop} (x : α) (h : I x ρ w) : S P n (.l (Meet n ds I) :: k) Qf ρ ds w := fun _ a ha => ⟨x, ρ, ha, h⟩
end
end Go.Eng
