/-
  FURTHER LAWS ON MEMORY, OF MY OWN: append of a slice, slice literals, arrays and slices of them. Over any program. No condition.
-/
import Derived.Test.YtgpcanjmgdmdhaaDoorReg
import Derived.Great.BuildSlice
namespace Go.Eng
set_option linter.unusedVariables false
set_option linter.unusedSimpArgs false

/-- What is read is owned: kinds without blocks of their own. -/
def Kd.Flat {α : Type} (d : Kd α) : Prop := ∀ w F x cs, d.K w F x cs → d.O w [] x cs
theorem flat_int (k : IntKind) : (Kd.int k).Flat := fun w F x cs h => ⟨h.1, rfl⟩
theorem flat_bool : Kd.bool.Flat := fun w F x cs h => ⟨h.1, rfl⟩
theorem flat_str : Kd.str.Flat := fun w F x cs h => ⟨h.1, rfl⟩
theorem flat_flat {α : Type} {sz : Nat} {enc : α → List Value} {hp hl h1} : (Kd.flat sz enc hp hl h1).Flat := fun w F x cs h => ⟨h.1, rfl⟩
theorem flat_prod {α β : Type} {a : Kd α} {b : Kd β} (ha : a.Flat) (hb : b.Flat) : (a.prod b).Flat := by
  rintro w F x cs ⟨F1, F2, c1, c2, rfl, rfl, h1, h2⟩
  exact ⟨[], [], c1, c2, rfl, rfl, ha _ _ _ _ h1, hb _ _ _ _ h2⟩
theorem Els.flat {α : Type} {d : Kd α} (hf : d.Flat) {w : World} {xs : List α} : ∀ {F : List Nat} {cs : List Value}, Els (d.K w) F xs cs → Els (d.O w) [] xs cs := by
  induction xs with
  | nil => rintro F cs ⟨rfl, rfl⟩; exact ⟨rfl, rfl⟩
  | cons x xs ih =>
    rintro F cs ⟨F1, F2, c1, c2, rfl, rfl, h1, h2⟩
    exact ⟨[], [], c1, c2, rfl, rfl, hf _ _ _ _ h1, ih h2⟩
theorem Kd.R.blocks_any {α : Type} {d : Kd α} {w : World} {F : List Nat} {v : Value} {xs : List α} (h : d.R w F v xs) : v.oneCell' = true := h.oneCell

section
variable {P : Program} {n : Nat} {k : List It} {Qf : Exit → Act → World → Prop} {ρ : Fr} {ds : List Deferred} {w : World}
variable {ops : Array Oper} {rest : List Oper} {d : Option Nat} {ty : TypeId} {pos : String} {af : Array Edge}

/-- An operation that acts: it comes to some value and world, of which Φ holds. -/
def Ex (P : Program) (ρ : Fr) (o : Oper) (w : World) (Φ : Value → World → Prop) : Prop := o.guard = none ∧ ∃ v w', (execOp (ev ρ) o).run P w = .ok (.value v) w' ∧ Φ v w'
theorem ef {o : Oper} {Φ : Value → World → Prop} (h : Ex P ρ o w Φ) (hk : ∀ v w', Φ v w' → L P n ops rest k Qf (updo ρ o.dst v) ds w') : L P n ops (o :: rest) k Qf ρ ds w := by
  obtain ⟨hg, v, w', hr, hΦ⟩ := h
  exact opv hg hr (hk v w' hΦ)
theorem uf {K : Fr → World → Prop} {S' : World → Prop} {fuel : Nat} {listed : Array Bool} {i : Nat} {oi : Oper} {Φ : Value → World → Prop} (hi : ops[i]? = some oi) (h : Ex P ρ oi w Φ) (hk : ∀ v w', Φ v w' → S' w' ∧ D P n ops K S' fuel (listed.setIfInBounds i true) (updo ρ oi.dst v) ds w') : Up P n ops K S' fuel listed i ρ ds w := by
  obtain ⟨hg, v, w', hr, hΦ⟩ := h
  obtain ⟨h1, h2⟩ := hk v w' hΦ
  exact uv hi hg hr h1 h2

theorem run_ap_nil {t e : TypeId} {z : Value} {sz by_ : Nat} (ht : P.underlying t = some (.slice e)) (hi : TI P e z sz by_) {A : Option Addr} {m c : Nat} (hmc : m ≤ c) (a : Option Addr) (c' : Nat) (ha : a = none) : (Builtin.append_ #[t, t] ty #[.slice A m c, .slice a 0 c']).run P w = .ok (.slice A m c) w := by
  obtain ⟨i0, hi0, hz, hsz, _⟩ := info_parts hi
  subst ha
  cases A <;> simp [Builtin.append_, run_underlying ht, sizeOf, typeInfo, hi0, Builtin.lenOf, Builtin.firstCells, hmc, storeCells, Addr.add]
/-- 's = append(s, x...)', the elements without blocks of their own. -/
theorem aps {α : Type} {dk : Kd α} {t e : TypeId} {z : Value} {by_ : Nat} {s x : Operand} {F G : List Nat} {v u : Value} {xs ys : List α}
    (ht : P.underlying t = some (.slice e)) (hi : TI P e z dk.sz by_) (hz : z.cells.size = dk.sz) (hf : dk.Flat) (hs : ev ρ s = v) (hx : ev ρ x = u) (hW : dk.W e w F v xs) (hR : dk.R w G u ys) (hn : F.Nodup) (hb : (xs.length + ys.length) * by_ ≤ 140737488355328 ∧ xs.length + ys.length ≤ 140737488355328) :
    Ex P ρ ⟨d, .call ⟨.builtin .append, #[s, x], #[t, t]⟩, ty, pos, af, none⟩ w (fun v' w' => ∃ F', Apd dk e w w' F [] F' v v' (xs ++ ys)) := by
  refine ⟨rfl, ?_⟩
  obtain ⟨A, c, G1, Gs, cs, rfl, hc, rfl, hG, he, hr⟩ := hR
  have hE := he.flat hf
  have hx' : ∀ (r : Result Value), (Builtin.append_ #[t, t] ty #[v, .slice A ys.length c]).run P w = r → (execOp (ev ρ) ⟨d, .call ⟨.builtin .append, #[s, x], #[t, t]⟩, ty, pos, af, none⟩).run P w = r.andThen (fun v w' => .ok (.value v) w') := by
    intro r hr'
    simp [execOp, resolve, invoke, builtin, hs, hx, hr']
  cases hA : A with
  | none =>
    subst hA
    have hy : ys = [] := by
      cases ys with
      | nil => rfl
      | cons y ys =>
        have hl := he.length (sz := dk.sz) (fun _ _ _ h => dk.len h)
        have hp : 0 < cs.length := by rw [hl]; exact Nat.mul_pos (by simp) dk.pos
        obtain ⟨ad, e1, _⟩ := hr 0 _ (List.getElem?_eq_getElem hp)
        cases e1
    subst hy
    obtain ⟨A', c', rfl, hle⟩ := hW.R.shape
    refine ⟨_, w, hx' _ (run_ap_nil ht hi hle none c rfl), F, ⟨by simpa using hW, hn, fun k hk => .inl hk, Ch.refl _ _⟩⟩
  | some a =>
    subst hA
    obtain ⟨v', w', F', hrun, hA⟩ := run_ap (P := P) (ty := ty) (dk := dk) ht hi hz hW (G := []) (ys := ys) (by simpa using hn) a c cs hE (fun j u hu => by
      obtain ⟨ad, e1, _, e3⟩ := hr j u hu
      injection e1 with e1
      subst e1; exact e3) hb.1 hb.2
    exact ⟨v', w', hx' _ hrun, F', hA⟩

/-- A slice literal: its block. -/
theorem bsm {t e : TypeId} {m : Nat} {parts : Array (Nat × Operand)} {z : Value} {sz by_ : Nat} {Lp : List (Nat × List Value)} {cs : List Value} (ht : P.underlying t = some (.slice e)) (hi : TI P e z sz by_) (hz : z.cells.size = sz) (hm : (Nat.blt 0 (m * sz) && Nat.ble (m * sz) 1000) = true)
    (hp : parts.toList.map (fun p => (p.1, (ev ρ p.2).cells.toList)) = Lp) (hr : fillL ((List.range m).map (fun i => (i * sz, sz))) (List.replicate m z.cells.toList).flatten Lp = some cs) :
    Ex P ρ ⟨d, .buildSlice t m parts, ty, pos, af, none⟩ w (fun v w' => ∃ g, g = w.heap.size ∧ v = .slice (some ⟨g, 0, none⟩) m m ∧ w'.heap.size = g + 1 ∧ B w' g e cs ∧ Ch [] w w') := by
  obtain ⟨i0, hi0, hz0, hsz, _⟩ := hi.size
  simp only [Bool.and_eq_true, Nat.blt_eq, Nat.ble_eq] at hm
  have hz' : 0 < z.cells.size := by
    rcases Nat.eq_zero_or_pos sz with h | h
    · rw [h] at hm; omega
    · omega
  have hfill : Instr.fill (fun i => some (i * i0.size, i0.size)) (madeCells z.cells (m * i0.size)) (parts.map fun (i, x) => (i, ev ρ x)).toList = some cs.toArray := by
    rw [hsz]
    refine fill_L (pl := (List.range m).map (fun i => (i * sz, sz))) ?_ (L := Lp) (by rw [← hp]; simp) ?_
    · intro i q h
      rw [List.getElem?_map, Option.map_eq_some_iff] at h
      obtain ⟨j, hj, rfl⟩ := h
      have := List.getElem?_eq_some_iff.1 hj
      obtain ⟨h1, h2⟩ := this
      simp at h2; subst h2; rfl
    · rw [← hz, made_flat z.cells hz', hz]; exact hr
  refine ⟨rfl, _, w.alloc (.cells cs.toArray e), ?_, w.heap.size, rfl, rfl, by simp, b_alloc _ _ _, ch_alloc _ _⟩
  simp only [execOp, Sem.run_bind, run_buildSlice w t e m _ cs.toArray i0 z ht hi0 hz0 (by rw [hsz]; omega) (by rw [hsz]; omega) hfill, Result.andThen_ok, Sem.run_pure]
/-- A block of one's own is a row. -/
theorem row_of_B {α : Type} {dk : Kd α} {e : TypeId} {g : Nat} {G : List Nat} {xs : List α} {cs : List Value} (hB : B w g e cs) (hE : Els (dk.O w) G xs cs) (hm : xs.length ≤ maxLen) : dk.W e w (g :: G) (.slice (some ⟨g, 0, none⟩) xs.length xs.length) xs := by
  have hl := hE.length (sz := dk.sz) (fun _ _ _ h => dk.len (dk.own h))
  refine ⟨G, cs, ⟨hl, .inr ⟨g, xs.length, cs.toArray, rfl, Nat.zero_le _, hB, Nat.le_refl _, hm, by simpa using hl, ?_⟩⟩, by simp [Value.ownBlock], hE⟩
  rw [List.toList_toArray, ← hl, List.take_length]
theorem els_int {k : IntKind} (xs : List Int) : Els ((Kd.int k).O w) [] xs (xs.map (Value.int k)) := by
  induction xs with
  | nil => exact ⟨rfl, rfl⟩
  | cons x xs ih => exact ⟨[], [], [.int k x], _, rfl, rfl, ⟨rfl, rfl⟩, ih⟩
theorem els_flat {α : Type} {sz : Nat} {enc : α → List Value} {hp : 0 < sz} {hl : ∀ x, (enc x).length = sz} {h1 : ∀ x u, u ∈ enc x → u.oneCell' = true} (xs : List α) : Els ((Kd.flat sz enc hp hl h1).O w) [] xs (xs.flatMap enc) := by
  induction xs with
  | nil => exact ⟨rfl, rfl⟩
  | cons x xs ih => exact ⟨[], [], enc x, _, rfl, rfl, ⟨rfl, rfl⟩, ih⟩
theorem els_int_inv {k : IntKind} {xs : List Int} : ∀ {F : List Nat} {cs : List Value}, Els ((Kd.int k).K w) F xs cs → cs = xs.map (Value.int k) := by
  induction xs with
  | nil => rintro F cs ⟨_, rfl⟩; rfl
  | cons x xs ih =>
    rintro F cs ⟨F1, F2, c1, c2, rfl, rfl, ⟨rfl, rfl⟩, h2⟩
    rw [ih h2]; rfl
/-- A row of numbers: its cells. -/
theorem Kd.R.ints {k : IntKind} {F : List Nat} {v : Value} {xs : List Int} (h : (Kd.int k).R w F v xs) (hp : 0 < xs.length) : ∃ p c, v = .slice (some p) xs.length c ∧ ∀ j u, (xs.map (Value.int k))[j]? = some u → w.cell? (p.add j) = some u := by
  obtain ⟨A, c, G, Fs, cs, rfl, hc, rfl, hG, he, hr⟩ := h
  obtain rfl := els_int_inv he
  obtain ⟨ad, rfl, _⟩ := hr 0 _ (List.getElem?_eq_getElem (by simpa using hp))
  refine ⟨ad, c, rfl, fun j u hu => ?_⟩
  obtain ⟨ad', e1, _, e3⟩ := hr j u hu
  injection e1 with e1
  subst e1; exact e3

/-! ### Arrays -/
theorem s2a {arr e : TypeId} {m len c : Nat} {x : Operand} {p : Addr} (hu : P.underlying arr = some (.array m e)) (hx : ev ρ x = .slice (some p) len c) (h : m ≤ len) : Rn P ρ ⟨d, .sliceToArrayPointer arr x, ty, pos, af, none⟩ w (.pointer (some p)) :=
  ⟨rfl, fun w' _ => by simp [execOp, hx, Instr.arrayAt, run_underlying hu, show ¬ len < m by omega]⟩
theorem sla {arr e : TypeId} {m : Nat} {x : Operand} {p : Addr} {z : Value} {sz by_ : Nat} (hu : P.underlying arr = some (.array m e)) (hi : TI P e z sz by_) (hx : ev ρ x = .pointer (some p)) : Rn P ρ ⟨d, .slice arr x none none none, ty, pos, af, none⟩ w (.slice (some p) m m) := by
  obtain ⟨i0, hi0, hz, hsz, _⟩ := info_parts hi
  refine ⟨rfl, fun w' _ => ?_⟩
  simp [execOp, hx, Instr.sliceAt, run_underlying hu, Instr.sureAddr, Instr.sliceBounds, sizeOf, typeInfo, hi0, Addr.add]
end
/-! ### Arrays of bytes -/
abbrev byts (xs : List Int) : List Value := xs.map (Value.int .u8)
section
variable {P : Program} {n : Nat} {k : List It} {Qf : Exit → Act → World → Prop} {ρ : Fr} {ds : List Deferred} {w : World}
variable {ops : Array Oper} {rest : List Oper} {d : Option Nat} {ty : TypeId} {pos : String} {af : Array Edge}
theorem byts_one (xs : List Int) : ∀ u, u ∈ byts xs → u.oneCell' = true := fun u hu => by
  obtain ⟨x, _, rfl⟩ := List.mem_map.1 hu
  rfl
theorem sta {t T : TypeId} {p x : Operand} {g : Nat} {cs : List Value} {xs : List Int} {z : Value} {sz by_ : Nat} (hi : TI P t z sz by_) (hp : ev ρ p = .pointer (some ⟨g, 0, none⟩)) (hx : ev ρ x = .agg (byts xs).toArray) (hl : xs.length = sz) (hB : B w g T cs) (ho : cs.length = sz)
    (h : ∀ w', w'.heap.size = w.heap.size → B w' g T (byts xs) → Ch [g] w w' → L P n ops rest k Qf (updo ρ d undef) ds w') : L P n ops (⟨d, .store t p x, ty, pos, af, none⟩ :: rest) k Qf ρ ds w := by
  refine st' (vs := byts xs) hi hp hx rfl hB (by simpa [byts] using hl) (by omega) (byts_one xs) (fun w' h1 h2 h3 => h w' h1 ?_ h3)
  have e : splice cs 0 (byts xs) = byts xs := by
    simp only [splice, List.take_zero, List.nil_append, byts, List.length_map, Nat.zero_add]
    rw [List.drop_eq_nil_of_le (by omega), List.append_nil]
  rw [e] at h2; exact h2
theorem laa {t T : TypeId} {x : Operand} {g : Nat} {D : TypeDesc} {z : Value} {sz by_ : Nat} {xs : List Int} (ht : P.underlying t = some D) (hD : aggD D = true) (hi : TI P t z sz by_) (hx : ev ρ x = .pointer (some ⟨g, 0, none⟩)) (hB : B w g T (byts xs)) (hl : xs.length = sz) : Rn P ρ ⟨d, .load t x, ty, pos, af, none⟩ w (.agg (byts xs).toArray) :=
  lab (byts xs) ht hD hi hx hB (by simpa [byts] using hl) (by simp only [List.drop_zero]; exact List.take_of_length_le (by simp [byts]; omega))
theorem row_of_arr {g : Nat} {T : TypeId} {xs : List Int} {m : Nat} (hB : B w g T (byts xs)) (hl : xs.length = m) (hm : m ≤ maxLen) : (Kd.int .u8).W T w [g] (.slice (some ⟨g, 0, none⟩) m m) xs := by
  subst hl
  exact row_of_B hB (els_int xs) hm
end
/-! ### What an append leaves as it was -/
section
variable {α β : Type} {dk : Kd α} {dl : Kd β} {e e2 T : TypeId} {w w0 w' : World} {F G F' Fs : List Nat} {v v' vs : Value} {xs ys : List α} {zs : List β} {b m : Nat} {cs : List Value}
theorem Apd.blk (A : Apd dk e w w' F G F' v v' xs) (hW : dk.W e w F v ys) (d : ∀ k, k ∈ F → k ∉ [b]) (hb : B w b T cs) : B w' b T cs := A.ch.b hb (fun h => d b (W_own hW b h) (by simp))
theorem Apd.row (A : Apd dk e w w' F G F' v v' xs) (hW : dk.W e w F v ys) (x : ∀ k, k ∈ Fs → k ∉ F) (h : dl.W e2 w Fs vs zs) : dl.W e2 w' Fs vs zs := h.tt A.ch (fun k hk h => x k hk (W_own hW k h))
theorem Apd.rowR (A : Apd dk e w w' F G F' v v' xs) (hW : dk.W e w F v ys) (x : ∀ k, k ∈ Fs → k ∉ F) (h : dl.R w Fs vs zs) : dl.R w' Fs vs zs := h.tt A.ch (fun k hk h => x k hk (W_own hW k h))
theorem Apd.low (A : Apd dk e w w' F [] F' v v' xs) (hc : Ch [] w0 w) (f : ∀ k, k ∈ F → w0.heap.size ≤ k) : ∀ k, k ∈ F' → w0.heap.size ≤ k := fun k hk => by
  rcases A.sub k hk with h | h | h
  · exact f k h
  · cases h
  · exact Nat.le_trans hc.size h
theorem Apd.hc (A : Apd dk e w w' F G F' v v' xs) (hW : dk.W e w F v ys) (hc : Ch [] w0 w) (f : ∀ k, k ∈ F → w0.heap.size ≤ k) : Ch [] w0 w' := hc.trans A.ch (fun k hk hl => absurd (f k (W_own hW k hk)) (by omega))
theorem Apd.dis (A : Apd dk e w w' F [] F' v v' xs) (d : ∀ k, k ∈ F → k ∉ [b]) (hb : b < w.heap.size) : ∀ k, k ∈ F' → k ∉ [b] := fun k hk => by
  rcases A.sub k hk with h | h | h
  · exact d k h
  · cases h
  · exact nin1 (by omega)
/-- Of another row's blocks none is ours, before and after. -/
theorem Apd.x (A : Apd dk e w w' F [] F' v v' xs) (x : ∀ k, k ∈ Fs → k ∉ F) (hs : ∀ k, k ∈ Fs → k < w.heap.size) : ∀ k, k ∈ Fs → k ∉ F' := fun k hk h => by
  rcases A.sub k h with h | h | h
  · exact x k hk h
  · cases h
  · have := hs k hk; omega
theorem Apd.low2 (A : Apd dk e w w' F G F' v v' xs) (hc : Ch [] w0 w) (f : ∀ k, k ∈ F → w0.heap.size ≤ k) (g : ∀ k, k ∈ G → w0.heap.size ≤ k) : ∀ k, k ∈ F' → w0.heap.size ≤ k := fun k hk => (A.sub k hk).elim (f k) (fun h => h.elim (g k) (fun h => Nat.le_trans hc.size h))
theorem Apd.dis2 (A : Apd dk e w w' F G F' v v' xs) (d : ∀ k, k ∈ F → k ∉ [b]) (g : ∀ k, k ∈ G → k ∉ [b]) (hb : b < w.heap.size) : ∀ k, k ∈ F' → k ∉ [b] := fun k hk => (A.sub k hk).elim (d k) (fun h => h.elim (g k) (fun h => nin1 (by omega)))
theorem Apd.x2 (A : Apd dk e w w' F G F' v v' xs) (x : ∀ k, k ∈ Fs → k ∉ F) (x' : ∀ k, k ∈ Fs → k ∉ G) (hs : ∀ k, k ∈ Fs → k < w.heap.size) : ∀ k, k ∈ Fs → k ∉ F' := fun k hk h => (A.sub k h).elim (x k hk) (fun h => h.elim (x' k hk) (fun h => by have := hs k hk; omega))
theorem nodup_two (h : F.Nodup) (h' : G.Nodup) (x : ∀ k, k ∈ F → k ∉ G) : (F ++ G).Nodup := nodup_app.2 ⟨h, h', x⟩
theorem Apd.refl (hW : dk.W e w F v xs) (hn : F.Nodup) : Apd dk e w w F [] F v v xs := ⟨hW, hn, fun k hk => .inl hk, Ch.refl _ _⟩
theorem Apd.tr {w1 : World} {F1 : List Nat} (A : Apd dk e w w1 F [] F1 v v xs) (A' : Apd dk e w1 w' F1 [] F' v v ys) : Apd dk e w w' F [] F' v v ys := ⟨A'.W, A'.nd, fun k hk => by
  rcases A'.sub k hk with h | h | h
  · exact A.sub k h
  · cases h
  · exact .inr (.inr (Nat.le_trans A.ch.size h)), A.ch.trans A'.ch (fun k hk _ => hk)⟩
theorem Apd.t {w1 : World} {F1 : List Nat} (A : Apd dk e w w1 F [] F1 v v xs) (hc : Ch [] w1 w') : Apd dk e w w' F [] F1 v v xs := ⟨A.W.t hc, A.nd, A.sub, A.ch.t hc⟩
theorem x_new {n : Nat} (h : ∀ k, k ∈ F → k < n) (f : ∀ k, k ∈ G → n ≤ k) : ∀ k, k ∈ F → k ∉ G := fun k hk hg => by have := h k hk; have := f k hg; omega
theorem x_sym (x : ∀ k, k ∈ F → k ∉ G) : ∀ k, k ∈ G → k ∉ F := fun k hk hf => x k hf hk
theorem low_t (hc : Ch [] w0 w) (f : ∀ k, k ∈ F → w.heap.size ≤ k) : ∀ k, k ∈ F → w0.heap.size ≤ k := fun k hk => Nat.le_trans hc.size (f k hk)
theorem nodup_nil (h : F.Nodup) : (F ++ []).Nodup := by simpa using h
end
end Go.Eng
