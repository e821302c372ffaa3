/-
  OPERATIONS THAT ACT, SAID BY WHAT THEY LEAVE (for regions in the text's order and for those whose order is drawn), OF MY OWN: over any program. No condition.
-/
import Derived.Test.YtgpcanjmgdmdhaaDoorAct
namespace Go.Eng
set_option linter.unusedVariables false
set_option linter.unusedSimpArgs false
section
variable {P : Program} {n : Nat} {k : List It} {Qf : Exit → Act → World → Prop} {ρ : Fr} {ds : List Deferred} {w : World}
variable {ops : Array Oper} {rest : List Oper} {d : Option Nat} {ty : TypeId} {pos : String} {af : Array Edge}
/-- A new block. -/
def NewB (t : TypeId) (cs : List Value) (w : World) (v : Value) (w' : World) : Prop := ∃ g, g = w.heap.size ∧ v = .pointer (some ⟨g, 0, none⟩) ∧ w'.heap.size = g + 1 ∧ B w' g t cs ∧ Ch [] w w'
theorem xal {t : TypeId} {z : Value} {sz by_ : Nat} (hi : TI P t z sz by_) : Ex P ρ ⟨d, .alloc t, ty, pos, af, none⟩ w (NewB t z.cells.toList w) := by
  obtain ⟨i0, hi0, hz, _, _⟩ := info_parts hi
  refine ⟨rfl, .pointer (some ⟨w.heap.size, 0, none⟩), w.alloc (.cells z.cells t), ?_, _, rfl, rfl, by simp, alloc_B w, ch_alloc _ _⟩
  simp [execOp, Instr.alloc, zeroValue, typeInfo, hi0, hz, newVar, newRow, run_program]
theorem xbx {t : TypeId} {x : Operand} {v : Value} {cs : List Value} (hx : ev ρ x = v) (hv : v.cells.toList = cs) : Ex P ρ ⟨d, .box t x, ty, pos, af, none⟩ w (NewB t cs w) := by
  subst hv
  refine ⟨rfl, .pointer (some ⟨w.heap.size, 0, none⟩), w.alloc (.cells v.cells t), ?_, _, rfl, rfl, by simp, alloc_B w, ch_alloc _ _⟩
  simp [execOp, Instr.box, hx, newVar, newRow]
/-- A store into a block. -/
theorem xst {t T : TypeId} {p x : Operand} {g o : Nat} {cs vs : List Value} {v z : Value} {sz by_ : Nat} (hi : TI P t z sz by_) (hp : ev ρ p = .pointer (some ⟨g, o, none⟩)) (hx : ev ρ x = v) (hv : v.cells.toList = vs) (hB : B w g T cs) (hl : vs.length = sz) (ho : o + sz ≤ cs.length) (h1 : ∀ u, u ∈ vs → u.oneCell' = true) :
    Ex0 P ρ ⟨d, .store t p x, ty, pos, af, none⟩ w (fun w' => w'.heap.size = w.heap.size ∧ B w' g T (splice cs o vs) ∧ Ch [g] w w') := by
  subst hv
  obtain ⟨i0, hi0, hz, hsz, _⟩ := info_parts hi
  have hr := run_storeCells_at P g o T v.cells.toList 0 cs.toArray w hB (by simp only [Nat.add_zero, List.size_toArray]; omega) h1
  simp only [Nat.add_zero] at hr
  refine ⟨rfl, w.setRow g (cs.toArray.toList.take o ++ v.cells.toList ++ cs.toArray.toList.drop (o + v.cells.toList.length)).toArray, ?_, by simp [World.setRow], ?_, ch_setRow _ _ _⟩
  · have hl' : v.cells.size = sz := by rw [← hl]; simp
    simp [execOp, Instr.storeAt, Instr.sureAddr, hp, hx, storeVar, sizeOf, typeInfo, hi0, run_program, hsz, hl', hr]
  · have := setRow_heap w g cs.toArray (cs.take o ++ v.cells.toList ++ cs.drop (o + v.cells.toList.length)).toArray T (0, 0) hB
    simpa [B, splice] using this
theorem xsta {t T : TypeId} {p x : Operand} {g : Nat} {cs : List Value} {xs : List Int} {z : Value} {sz by_ : Nat} (hi : TI P t z sz by_) (hp : ev ρ p = .pointer (some ⟨g, 0, none⟩)) (hx : ev ρ x = .agg (byts xs).toArray) (hl : xs.length = sz) (hB : B w g T cs) (ho : cs.length = sz) :
    Ex0 P ρ ⟨d, .store t p x, ty, pos, af, none⟩ w (fun w' => w'.heap.size = w.heap.size ∧ B w' g T (byts xs) ∧ Ch [g] w w') := by
  obtain ⟨hg, w', h1, h2, h3, h4⟩ := xst (P := P) (d := d) (ty := ty) (pos := pos) (af := af) (vs := byts xs) hi hp hx rfl hB (by simpa [byts] using hl) (by omega) (byts_one xs)
  refine ⟨hg, w', h1, h2, ?_, h4⟩
  have e : splice cs 0 (byts xs) = byts xs := by
    simp only [splice, List.take_zero, List.nil_append, byts, List.length_map, Nat.zero_add]
    rw [List.drop_eq_nil_of_le (by omega), List.append_nil]
  rw [e] at h3; exact h3
/-- A new row. -/
def NewR {α : Type} (dk : Kd α) (e : TypeId) (xs : List α) (w : World) (v : Value) (w' : World) : Prop := ∃ F, dk.W e w' F v xs ∧ F.Nodup ∧ (∀ k, k ∈ F → w.heap.size ≤ k) ∧ Ch [] w w'
theorem xmk {α : Type} {dk : Kd α} {t e : TypeId} {x y : Operand} {z : Value} {by_ : Nat} {m : Nat} {kl kc : IntKind} (a : α) (ht : P.underlying t = some (.slice e)) (hi : TI P e z dk.sz by_) (hz : ∀ w, dk.O w [] a z.cells.toList) (hx : ev ρ x = .int kl (m : Int)) (hy : ev ρ y = .int kc (m : Int)) (hb : by_ * m ≤ 281474976710656 ∧ m ≤ 281474976710656) :
    Ex P ρ ⟨d, .makeSlice t x y, ty, pos, af, none⟩ w (NewR dk e (List.replicate m a) w) := by
  obtain ⟨i0, hi0, hz0, hsz, hby⟩ := hi.size
  obtain ⟨w', hr, ho, hg⟩ := run_make_full (P := P) (w := w) w.heap.size t e i0 z dk.sz ht hi0 hz0 hsz kl kc m (by rw [hby]; exact hb.1) (by simp only [maxLen]; omega) (Nat.le_refl _)
  have hzs : z.cells.size = dk.sz := by have := dk.len (dk.own (hz w)); simpa using this
  refine ⟨rfl, .slice (some ⟨w.heap.size, 0, none⟩) m m, w', by simp [execOp, hx, hy, hr], [w.heap.size], ⟨[], (madeCells z.cells (m * dk.sz)).toList, ?_, by simp [Value.ownBlock], ?_⟩, by simp, fun k hk => by rw [List.mem_singleton.1 hk]; exact Nat.le_refl _, ⟨hg.os, hg.tape, hg.output, hg.size, fun k hk _ => hg.block k hk (by simp)⟩⟩
  · obtain ⟨h1, h2⟩ := ho
    rw [List.length_replicate]
    refine ⟨h1, ?_⟩
    rcases h2 with h2 | ⟨g, cap, cur, hv, hg', r⟩
    · exact .inl h2
    · exact .inr ⟨g, cap, cur, hv, Nat.zero_le _, r⟩
  · rw [← hzs, made_flat z.cells (by rw [hzs]; exact dk.pos)]
    exact els_made (hz w') m
theorem xbs0 {α : Type} {dk : Kd α} {t e : TypeId} {z : Value} {by_ : Nat} (ht : P.underlying t = some (.slice e)) (hi : TI P e z dk.sz by_) : Ex P ρ ⟨d, .buildSlice t 0 #[], ty, pos, af, none⟩ w (NewR dk e [] w) := by
  obtain ⟨i0, hi0, hz0, hsz, _⟩ := hi.size
  refine ⟨rfl, .slice (some ⟨w.heap.size, 0, none⟩) 0 0, w.alloc (.cells #[] e), ?_, [w.heap.size], ⟨[], [], World.ownsRow_made w #[] 0 (Nat.zero_le _) (by unfold maxLen; omega) (by simp), by simp [Value.ownBlock], rfl, rfl⟩, by simp, fun k hk => by rw [List.mem_singleton.1 hk]; exact Nat.le_refl _, ch_alloc _ _⟩
  simp [execOp, Instr.buildSlice, run_underlying ht, sizeOf, typeInfo, hi0, run_program, Instr.fill, newRow]
  congr 2
  exact Array.eq_empty_of_size_eq_zero (by simp)
/-- A literal of one element, of whatever make. -/
theorem xbs1 {t e : TypeId} {z vx : Value} {x : Operand} {cs : List Value} {sz by_ : Nat} (ht : P.underlying t = some (.slice e)) (hi : TI P e z sz by_) (hz : z.cells.size = sz) (hp : (Nat.blt 0 sz && Nat.ble sz 1000) = true) (hx : ev ρ x = vx) (hv : vx.cells.toList = cs) (hl : cs.length = sz) :
    Ex P ρ ⟨d, .buildSlice t 1 #[(0, x)], ty, pos, af, none⟩ w (fun v w' => ∃ g, g = w.heap.size ∧ v = .slice (some ⟨g, 0, none⟩) 1 1 ∧ w'.heap.size = g + 1 ∧ B w' g e cs ∧ Ch [] w w') := by
  subst hv
  simp only [Bool.and_eq_true, Nat.blt_eq, Nat.ble_eq] at hp
  have hlx : vx.cells.size = sz := by rw [← hl]; simp
  have hrun := run_bs1 (P := P) ht hi hz hp.1 hlx hp.2 w
  refine ⟨rfl, _, w.alloc (.cells vx.cells e), ?_, w.heap.size, rfl, rfl, by simp, alloc_B w, ch_alloc _ _⟩
  simp [execOp, hx, hrun]
/-- 's = append(s, lit...)': lit: a block of elements that own what is G. -/
theorem xapb {α : Type} {dk : Kd α} {t e T : TypeId} {z : Value} {by_ : Nat} {s x : Operand} {F G : List Nat} {v : Value} {xs ys : List α} {g c : Nat} {cs : List Value}
    (ht : P.underlying t = some (.slice e)) (hi : TI P e z dk.sz by_) (hz : z.cells.size = dk.sz) (hs : ev ρ s = v) (hx : ev ρ x = .slice (some ⟨g, 0, none⟩) ys.length c) (hW : dk.W e w F v xs) (hB : B w g T cs) (hE : Els (dk.O w) G ys cs) (hn : (F ++ G).Nodup) (hb : (xs.length + ys.length) * by_ ≤ 140737488355328 ∧ xs.length + ys.length ≤ 140737488355328) :
    Ex P ρ ⟨d, .call ⟨.builtin .append, #[s, x], #[t, t]⟩, ty, pos, af, none⟩ w (fun v' w' => ∃ F', Apd dk e w w' F G F' v v' (xs ++ ys)) := by
  obtain ⟨v', w', F', hr, hA⟩ := run_ap (P := P) (ty := ty) (dk := dk) (w := w) ht hi hz hW (G := G) (ys := ys) hn ⟨g, 0, none⟩ c cs hE (fun j u hu => by rw [add_mk, hB.cell, Nat.zero_add]; exact hu) hb.1 hb.2
  exact ⟨rfl, v', w', by simp [execOp, resolve, invoke, builtin, hs, hx, hr], F', hA⟩
theorem els_one {α : Type} {R : List Nat → α → List Value → Prop} {G : List Nat} {x : α} {cs : List Value} (h : R G x cs) : Els R G [x] cs := ⟨G, [], cs, [], by simp, by simp, h, rfl, rfl⟩
/-- The element's store behind its address. -/
theorem xstw {α : Type} {dk : Kd α} {F G : List Nat} {xs : List α} {v vy : Value} {e e' : TypeId} {q y : Operand} {z : Value} {by_ : Nat} {j : Nat} {a : α} {ad : Addr} {c : Nat}
    (hi : TI P e z dk.sz by_) (hW : dk.W e' w F v xs) (hv : v = .slice (some ad) xs.length c) (hq : ev ρ q = .pointer (some (ad.add (j * dk.sz)))) (hlt : j < xs.length) (hy : ev ρ y = vy) (hE : dk.O w G a vy.cells.toList) (hn : (F ++ G).Nodup) :
    Ex0 P ρ ⟨d, .store e q y, ty, pos, af, none⟩ w (fun w' => w'.heap.size = w.heap.size ∧ ∃ F', Apd dk e' w w' F G F' v v (xs.set j a)) := by
  obtain ⟨g, cap, cur, F', hv', hh, hjs, hcl, hA⟩ := hW.put j hlt hE hn
  rw [hv] at hv'
  simp only [Value.slice.injEq, Option.some.injEq] at hv'
  obtain ⟨rfl, _, rfl⟩ := hv'
  obtain ⟨i0, hi0, hz, hsz, _⟩ := hi.size
  have hr := run_storeCells_at P g (j * dk.sz) e' vy.cells.toList 0 cur w hh (by omega) (dk.one (dk.own hE))
  simp only [Nat.add_zero] at hr
  refine ⟨rfl, _, ?_, ?_, F', hA⟩
  · have hl' : vy.cells.size = dk.sz := by have := hcl; simpa using this
    simp only [add_mk, Nat.zero_add] at hq
    simp [execOp, Instr.storeAt, Instr.sureAddr, hq, hy, storeVar, sizeOf, typeInfo, hi0, run_program, hsz, hl', hr]
  · simp [World.setRow]
end
section
variable {P : Program} {ρ : Fr} {w : World} {d : Option Nat} {ty : TypeId} {pos : String} {af : Array Edge}
def ifD : TypeDesc → Bool
  | .interface _ => true
  | _ => false
theorem mif {t : TypeId} {x : Operand} {v : Value} {D : TypeDesc} (ht : P.underlying t = some D) (hD : ifD D = false) (hx : ev ρ x = v) : Rn P ρ ⟨d, .makeInterface t x, ty, pos, af, none⟩ w (.iface t v) := by
  refine ⟨rfl, fun w' _ => ?_⟩
  cases D <;> simp [ifD] at hD <;> simp [execOp, hx, Instr.makeInterface, run_underlying ht]
theorem orl {t u : TypeId} {x y : Operand} {a b : Int} (c : Int) (hx : ev ρ x = .int .i64 a) (hy : ev ρ y = .int .i64 b) (hc : bits .or .i64 a b = c) : Rn P ρ ⟨d, .binOp .or t x y u, ty, pos, af, none⟩ w (.int .i64 c) :=
  ⟨rfl, fun w' _ => by simp [execOp, hx, hy, eqGuard, binOp, show Op.intBits .or .i64 a b = pure (.int .i64 (bits .or .i64 a b)) from rfl, hc]⟩
end
/-! ### A Bool that is known -/
section
variable {P : Program} {n : Nat} {k : List It} {Qf : Exit → Act → World → Prop} {ρ : Fr} {ds : List Deferred} {w : World} {ops : Array Oper} {rest : List Oper} {K : Fr → World → Prop} {K1 : Fr → Prop} {Kp : List PanicEntry → World → Prop} {S' : World → Prop} {fuel : Nat} {listed : Array Bool}
theorem spf (t : Nat) {b c : Bool} (ht : ρ t = .bool b) (hb : b = c) (h : L P n ops rest k Qf (upd ρ t (.bool c)) ds w) : L P n ops rest k Qf ρ ds w := by
  subst hb; rwa [upd_self ρ t _ ht] at h
theorem spfq (t : Nat) {b c : Bool} (ht : ρ t = .bool b) (hb : b = c) (h : M P n ds ops rest (upd ρ t (.bool c)) w K1) : M P n ds ops rest ρ w K1 := by
  subst hb; rwa [upd_self ρ t _ ht] at h
theorem spfe (t : Nat) {b c : Bool} (ht : ρ t = .bool b) (hb : b = c) (h : De P n ops K Kp S' fuel listed (upd ρ t (.bool c)) ds w) : De P n ops K Kp S' fuel listed ρ ds w := by
  subst hb; rwa [upd_self ρ t _ ht] at h
end
/-! ### Calls in a drawn region -/
section
variable {P : Program} {n : Nat} {k : List It} {Qf : Exit → Act → World → Prop} {ρ : Fr} {ds : List Deferred} {w : World} {ops : Array Oper} {K : Fr → World → Prop} {Kp : List PanicEntry → World → Prop} {S' : World → Prop} {fuel : Nat} {listed : Array Bool}
theorem eucr {i : Nat} {oi : Oper} {f : FuncId} {args : Array Value} {w1 : World} {Φ : Value → World → Prop} (hi : ops[i]? = some oi) (hg : oi.guard = none) (hrun : (execOp (ev ρ) oi).run P w = .ok (.enter f args) w1) (hc : Ret P f args w1 Φ)
    (h : ∀ v w', Φ v w' → ((listed.setIfInBounds i true).all id = true ∨ S' w') ∧ De P n ops K Kp S' fuel (listed.setIfInBounds i true) (updo ρ oi.dst v) ds w') : Ue P n ops K Kp S' fuel listed i ρ ds w := by
  intro hl a ha
  unfold wpOp
  simp only [hi, Region.wanted, hg, if_true]
  refine .inl ?_
  unfold Oper.wp
  rw [ha.eval, hrun]
  refine Calls.mono hc fun e w' ⟨v, he, hv⟩ => ?_
  subst he
  obtain ⟨h1, h2⟩ := h v w' hv
  exact ⟨h1, fun hcl => h2 hl hcl h1 _ (ha.put oi.dst (okl_at hl (by simpa using hi)) v)⟩
theorem euc {i : Nat} {d : Option Nat} {ty : TypeId} {pos : String} {af : Array Edge} {f : FuncId} {xs : Array Operand} {vs : List Value} {ts : Array TypeId} {Φ : Value → World → Prop} (hi : ops[i]? = some ⟨d, .call ⟨.value (.func f), xs, ts⟩, ty, pos, af, none⟩) (hg : Goes P f) (hx : xs.toList.map (ev ρ) = vs) (hc : Ret P f vs.toArray w Φ)
    (h : ∀ v w', Φ v w' → ((listed.setIfInBounds i true).all id = true ∨ S' w') ∧ De P n ops K Kp S' fuel (listed.setIfInBounds i true) (updo ρ d v) ds w') : Ue P n ops K Kp S' fuel listed i ρ ds w := by
  refine eucr hi rfl ?_ hc h
  rw [← arr hx]
  simp [execOp, resolve, Deferred.ofValue, invoke, ev, hg _ w]
theorem eucv {i : Nat} {d : Option Nat} {ty : TypeId} {pos : String} {af : Array Edge} {x : Operand} {f : FuncId} {cap : List Value} {xs : Array Operand} {vs : List Value} {ts : Array TypeId} {Φ : Value → World → Prop} (hi : ops[i]? = some ⟨d, .call ⟨.value x, xs, ts⟩, ty, pos, af, none⟩) (hx : ev ρ x = .func (.func f) #[] cap.toArray) (hg : Goes P f) (hxs : xs.toList.map (ev ρ) = vs) (hc : Ret P f (vs ++ cap).toArray w Φ)
    (h : ∀ v w', Φ v w' → ((listed.setIfInBounds i true).all id = true ∨ S' w') ∧ De P n ops K Kp S' fuel (listed.setIfInBounds i true) (updo ρ d v) ds w') : Ue P n ops K Kp S' fuel listed i ρ ds w := by
  refine eucr hi rfl ?_ hc h
  have := arr hxs
  simp [execOp, resolve, Deferred.ofValue, invoke, hx, hg _ w, this]
/-- A guarded call that is made. -/
theorem eucg {i : Nat} {d : Option Nat} {ty : TypeId} {pos : String} {af : Array Edge} {f : FuncId} {xs : Array Operand} {vs : List Value} {ts : Array TypeId} {j t : Nat} {b : Bool} {Φ : Value → World → Prop} (hi : ops[i]? = some ⟨d, .call ⟨.value (.func f), xs, ts⟩, ty, pos, af, some (j, b)⟩) (hj : (ops[j]?).bind (·.dst) = some t) (ht : ρ t = .bool b) (hn : Nat.blt t n = true) (hg : Goes P f) (hx : xs.toList.map (ev ρ) = vs) (hc : Ret P f vs.toArray w Φ)
    (h : ∀ v w', Φ v w' → ((listed.setIfInBounds i true).all id = true ∨ S' w') ∧ De P n ops K Kp S' fuel (listed.setIfInBounds i true) (updo ρ d v) ds w') : Ue P n ops K Kp S' fuel listed i ρ ds w := by
  intro hl a ha
  unfold wpOp
  simp only [hi, Region.wanted, yld (ops := ops) ha hj ht hn, vb, beq_self_eq_true, if_true]
  refine .inl ?_
  unfold Oper.wp
  have hrun : (execOp (ev ρ) ⟨d, .call ⟨.value (.func f), xs, ts⟩, ty, pos, af, some (j, b)⟩).run P w = .ok (.enter f vs.toArray) w := by
    rw [← arr hx]
    simp [execOp, resolve, Deferred.ofValue, invoke, ev, hg _ w]
  rw [ha.eval, hrun]
  refine Calls.mono hc fun e w' ⟨v, he, hv⟩ => ?_
  subst he
  obtain ⟨h1, h2⟩ := h v w' hv
  exact ⟨h1, fun hcl => h2 hl hcl h1 _ (ha.put d (okl_at hl (by simpa using hi)) v)⟩
end
/-- A row of bytes that is read alone (what '[]byte(s)' makes). -/
def rT (v : Value) (xs : List Int) : Rs where
  P w F := (Kd.int .u8).R w F v xs
  mv := fun {w w' F} hm h => by
    obtain ⟨A, c, G, Fs, cs, rfl, hc, rfl, hG, he, hr⟩ := h
    refine ⟨A, c, G, Fs, cs, rfl, hc, rfl, fun k hk => ?_, he.imp (fun _ _ _ _ h => h), fun j u hu => ?_⟩
    · have h1 := hm k (List.mem_append_left _ hk)
      have h2 := hG k hk
      rw [Array.getElem?_eq_getElem h2] at h1
      exact (Array.getElem?_eq_some_iff.1 h1).1
    · obtain ⟨ad, e1, e2, e3⟩ := hr j u hu
      refine ⟨ad, e1, e2, ?_⟩
      rw [World.cell?_of_block (w := w) (by rw [add_block]; exact hm _ (List.mem_append_left _ e2))]
      exact e3
  lt := fun h => h.lt
section
variable {w0 w w' : World} {F0 : List Nat} {Γ Δ : List Rs} {i : Nat}
theorem Hold.newT {v : Value} {xs : List Int} {g : Nat} (H : Hold w0 F0 w Γ) (e : g = w.heap.size) (h : (Kd.int .u8).R w' [g] v xs) (c : Ch [] w w') : Hold w0 F0 w' (Γ ++ [rT v xs]) :=
  H.new (r := rT v xs) h (by simp) (fun k hk => by rw [List.mem_singleton.1 hk, e]; exact Nat.le_refl _) c
theorem Hold.text {v : Value} {xs : List Int} (H : Hold w0 F0 w Γ) (i : Nat) (hi : Γ[i]? = some (rT v xs)) : ∃ F, (Kd.int .u8).R w F v xs := H.res i hi
theorem Hold.newb {t : TypeId} {cs : List Value} {v : Value} (H : Hold w0 F0 w Γ) (h : NewB t cs w v w') : ∃ g, v = .pointer (some ⟨g, 0, none⟩) ∧ Hold w0 F0 w' (Γ ++ [rB g t cs]) := by
  obtain ⟨g, e, hv, _, hB, c⟩ := h
  exact ⟨g, hv, H.newB e hB c⟩
theorem Hold.newr {α : Type} {dk : Kd α} {e : TypeId} {xs : List α} {v : Value} (H : Hold w0 F0 w Γ) (h : NewR dk e xs w v w') : Hold w0 F0 w' (Γ ++ [rR dk e v xs]) := by
  obtain ⟨F, hW, n, f, c⟩ := h
  exact H.new (r := rR dk e v xs) hW n f c
/-- An append that takes a second resource into the row: the two stand first. -/
theorem Hold.apd2 {α : Type} {dk : Kd α} {e : TypeId} {v v' : Value} {xs ys : List α} {F G F' FG : List Nat} (K : ∀ w' Γ' F', Hs w' Γ' F' → Turn w w' FG F' → Hold w0 F0 w' (Γ' ++ Δ)) (hFG : FG = F ++ G) (hW : dk.W e w F v ys) (A : Apd dk e w w' F G F' v v' xs) : Hold w0 F0 w' (rR dk e v' xs :: Δ) := by
  subst hFG
  refine K w' [rR dk e v' xs] F' (Hs.one (r := rR dk e v' xs) A.W) ⟨A.nd, fun k hk => ?_, A.ch.mono (fun k hk _ => List.mem_append_left _ (W_own hW k hk))⟩
  rcases A.sub k hk with h | h | h
  · exact .inl (List.mem_append_left _ h)
  · exact .inl (List.mem_append_right _ h)
  · exact .inr h
/-- The first of them, the others being elsewhere. -/
theorem Hold.frontx (H : Hold w0 F0 w (Γ ++ Δ)) : ∃ F, Hs w Γ F ∧ F.Nodup ∧ (∀ w' Γ' F', Hs w' Γ' F' → Turn w w' F F' → Hold w0 F0 w' (Γ' ++ Δ)) ∧ (∀ (i : Nat) (r : Rs), Δ[i]? = some r → ∃ Fi, r.P w Fi ∧ ∀ k, k ∈ Fi → k ∉ F) ∧ (∀ k, k ∈ F → k ∈ F0 ∨ w0.heap.size ≤ k) := by
  have H' := H
  obtain ⟨F, h, n, s, c⟩ := H
  obtain ⟨F1, F2, rfl, h1, h2⟩ := h.split
  obtain ⟨n1, n2, n3⟩ := nodup_app.1 n
  refine ⟨F1, h1, n1, fun w' Γ' F' h' T => ⟨F' ++ F2, h'.app (h2.mv fun k hk => T.ch.blk k (h2.lt k hk) (fun hk' => n3 k hk' hk)), nodup_app.2 ⟨T.nd, n2, fun k hk hk2 => ?_⟩, fun k hk => ?_, ?_⟩, fun i r hi => ?_, fun k hk => s k (List.mem_append_left _ hk)⟩
  · rcases T.sub k hk with hk' | hk'
    · exact n3 k hk' hk2
    · have := h2.lt k hk2; omega
  · rcases List.mem_append.1 hk with hk | hk
    · rcases T.sub k hk with hk' | hk'
      · exact s k (List.mem_append_left _ hk')
      · exact .inr (Nat.le_trans c.size hk')
    · exact s k (List.mem_append_right _ hk)
  · exact c.trans T.ch (fun k hk hl => (s k (List.mem_append_left _ hk)).resolve_right (by omega))
  · obtain ⟨Fa, Fi, Fb, rfl, _, hp, _⟩ := h2.pick hi
    exact ⟨Fi, hp, fun k hk hk' => n3 k hk' (by simp [hk])⟩
theorem dis_of {G F0 F : List Nat} {n : Nat} (hl : ∀ k, k ∈ G → k < n) (hd : ∀ k, k ∈ G → k ∉ F0) (s : ∀ k, k ∈ F → k ∈ F0 ∨ n ≤ k) : ∀ k, k ∈ G → k ∉ F := fun k hk hf => (s k hf).elim (hd k hk) (fun h => by have := hl k hk; omega)
theorem dis_of0 {G F : List Nat} {n : Nat} (hl : ∀ k, k ∈ G → k < n) (s : ∀ k, k ∈ F → k ∈ ([] : List Nat) ∨ n ≤ k) : ∀ k, k ∈ G → k ∉ F := dis_of hl (fun k _ h => by cases h) s
theorem Ret.hold {P : Program} {f : FuncId} {args : Array Value} {α : Type} {d : Kd α} {e : TypeId} {xs : List α} (h : Ret P f args w (fun r w' => (∃ F, d.W e w' F r xs ∧ F.Nodup ∧ ∀ k, k ∈ F → w.heap.size ≤ k) ∧ Ch [] w w')) : Ret P f args w (fun r w' => Hold w [] w' [rR d e r xs]) :=
  h.mono fun r w' hh => by
    obtain ⟨⟨F, hW, n, f⟩, c⟩ := hh
    exact ⟨F, Hs.one (r := rR d e r xs) hW, Turn.new n f c⟩
theorem Ch.cellN {w1 w2 : World} {F : List Nat} {p : Addr} {v : Value} (h : Ch F w1 w2) (s : ∀ k, k ∈ F → k ∈ ([] : List Nat) ∨ w0.heap.size ≤ k) (H : Ch [] w0 w1) (hc : w0.cell? p = some v) : w2.cell? p = some v := by
  have hl := World.block_lt_of_cell? w0 p hc
  have h1 := H.cell hc
  exact (World.cell?_of_block (h.blk p.block (World.block_lt_of_cell? w1 p h1) (fun hk => (s _ hk).elim (fun h => by cases h) (fun h => by omega)))).trans h1
/-- Out of the contracts in the elder form. -/
theorem hold_new {α : Type} {d : Kd α} {e : TypeId} {v : Value} {xs : List α} (h : ∃ F, d.W e w' F v xs ∧ F.Nodup ∧ ∀ k, k ∈ F → w.heap.size ≤ k) (c : Ch [] w w') : Hold w [] w' [rR d e v xs] := by
  obtain ⟨F, hW, n, f⟩ := h
  exact ⟨F, Hs.one (r := rR d e v xs) hW, Turn.new n f c⟩
theorem hold_ch (c : Ch [] w w') : Hold w [] w' [] := ⟨[], rfl, Turn.new (by simp) (fun k hk => by cases hk) c⟩
theorem hold_apd {α : Type} {dk : Kd α} {e : TypeId} {v v' : Value} {xs ys : List α} {F F' : List Nat} (hW : dk.W e w F v ys) (A : Apd dk e w w' F [] F' v v' xs) : Hold w F w' [rR dk e v' xs] :=
  ⟨F', Hs.one (r := rR dk e v' xs) A.W, A.nd, fun k hk => (A.sub k hk).elim .inl (fun h => h.elim (fun h => by cases h) .inr), A.ch.mono (fun k hk _ => W_own hW k hk)⟩
theorem hold_mut {α : Type} {dk : Kd α} {e : TypeId} {v : Value} {xs : List α} {F F' : List Nat} (A : Mut dk e w w' F F' v xs) : Hold w F w' [rR dk e v xs] := ⟨F', Hs.one (r := rR dk e v xs) A.W, A.nd, A.sub, A.ch⟩
/-- The row that a block is; the block that a row is not any more. -/
theorem Hold.asrow {α : Type} {dk : Kd α} {e : TypeId} {g m : Nat} {xs : List α} {cs : List Value} (H : Hold w0 F0 w Γ) (i : Nat) (hi : Γ[i]? = some (rB g e cs)) (hE : Els (dk.O w) [] xs cs) (hm : xs.length = m ∧ m ≤ maxLen) (he : Γ.set i (rR dk e (.slice (some ⟨g, 0, none⟩) m m) xs) = Δ) : Hold w0 F0 w Δ := by
  obtain ⟨F, ⟨rfl, hB⟩, n, s, K⟩ := H.pick i hi
  obtain ⟨rfl, hm⟩ := hm
  exact K w (rR dk e (.slice (some ⟨g, 0, none⟩) xs.length xs.length) xs) [g] Δ (row_of_B hB hE hm) (Turn.own (by simp) (fun k hk => hk) (Ch.refl _ _)) he
theorem Hold.nilrow {α : Type} (dk : Kd α) (e : TypeId) (H : Hold w0 F0 w Γ) : Hold w0 F0 w (Γ ++ [rR dk e (.slice none 0 0) []]) := H.new (r := rR dk e (.slice none 0 0) []) (Kd.nil_W dk e w) (by simp) (fun k hk => by cases hk) (Ch.refl _ _)
end
end Go.Eng
