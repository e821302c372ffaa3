/-
  POINTERS AGAINST nil, unsafe.Pointer AND BACK, bytes 'and', texts of the shelf's contracts, OF MY OWN: over any program. No condition.
-/
import Derived.Test.YtgpcanjmgdmdhaaDoorTwo
import Derived.Test.YtgpcanjmgdmdhaaDoorMap
import Derived.Lib.Builder
import Derived.Lib.LaidTab
import Derived.Lib.AppendIntMem
import Derived.Laws.Pointers
import Derived.Deep.AppendSrc
namespace Go.Eng
set_option linter.unusedVariables false
set_option linter.unusedSimpArgs false
section
variable {P : Program} {n : Nat} {k : List It} {Qf : Exit → Act → World → Prop} {ρ : Fr} {ds : List Deferred} {w : World} {ops : Array Oper} {rest : List Oper}
variable {d : Option Nat} {ty : TypeId} {pos : String} {af : Array Edge}
theorem pel {t u e : TypeId} {x : Operand} {p : Option Addr} (ht : P.underlying t = some (.pointer e)) (hx : ev ρ x = .pointer p) : Rn P ρ ⟨d, .binOp .eql t x (.const (.pointer none)) u, ty, pos, af, none⟩ w (.bool p.isNone) := by
  refine ⟨rfl, fun w' _ => ?_⟩
  have h := run_eql_pointer_nil (P := P) w' t p (by rw [ht]; simp [Program.pointee, ht])
  simp only [execOp, hx, show ev ρ (.const (.pointer none)) = .pointer none from rfl, Sem.run_bind, show (eqGuard .eql t x (.const (.pointer none)) (.pointer p) (.pointer none)).run P w' = .ok () w' by simp [eqGuard], Result.andThen_ok, h, Sem.run_pure]
theorem pnn {t u e : TypeId} {x : Operand} {p : Option Addr} (ht : P.underlying t = some (.pointer e)) (hx : ev ρ x = .pointer p) : Rn P ρ ⟨d, .binOp .neq t x (.const (.pointer none)) u, ty, pos, af, none⟩ w (.bool (!p.isNone)) := by
  refine ⟨rfl, fun w' _ => ?_⟩
  have h := run_neq_pointer_nil (P := P) w' t p (by rw [ht]; simp [Program.pointee, ht])
  simp only [execOp, hx, show ev ρ (.const (.pointer none)) = .pointer none from rfl, Sem.run_bind, show (eqGuard .neq t x (.const (.pointer none)) (.pointer p) (.pointer none)).run P w' = .ok () w' by simp [eqGuard], Result.andThen_ok, h, Sem.run_pure]
theorem pns {t u e : TypeId} {z : Value} {sz by_ : Nat} {x y : Operand} {a : Addr} (ht : P.underlying t = some (.pointer e)) (hi : TI P e z sz by_) (hx : ev ρ x = .pointer (some a)) (hy : ev ρ y = .pointer (some a)) : Rn P ρ ⟨d, .binOp .neq t x y u, ty, pos, af, none⟩ w (.bool false) := by
  obtain ⟨i0, hi0, _, _, _⟩ := info_parts hi
  refine ⟨rfl, fun w' _ => ?_⟩
  have h := Go.Lib.run_neq_ptr_same (P := P) w' a ht hi0
  simp only [execOp, hx, hy, Sem.run_bind, show (eqGuard .neq t x y (.pointer (some a)) (.pointer (some a))).run P w' = .ok () w' by simp [eqGuard], Result.andThen_ok, h, Sem.run_pure]
theorem andl {t u : TypeId} {x y : Operand} {k : IntKind} {a b : Int} (c : Int) (hx : ev ρ x = .int k a) (hy : ev ρ y = .int k b) (hc : bits .and k a b = c) : Rn P ρ ⟨d, .binOp .and t x y u, ty, pos, af, none⟩ w (.int k c) :=
  ⟨rfl, fun w' _ => by simp [execOp, hx, hy, eqGuard, binOp, show Op.intBits .and k a b = pure (.int k (bits .and k a b)) from rfl, hc]⟩
theorem xorl {t u : TypeId} {x y : Operand} {k : IntKind} {a b : Int} (c : Int) (hx : ev ρ x = .int k a) (hy : ev ρ y = .int k b) (hc : bits .xor k a b = c) : Rn P ρ ⟨d, .binOp .xor t x y u, ty, pos, af, none⟩ w (.int k c) :=
  ⟨rfl, fun w' _ => by simp [execOp, hx, hy, eqGuard, binOp, show Op.intBits .xor k a b = pure (.int k (bits .xor k a b)) from rfl, hc]⟩
theorem adw {t u : TypeId} {x y : Operand} {kd : IntKind} {a b : Int} (c : Int) (hx : ev ρ x = .int kd a) (hy : ev ρ y = .int kd b) (hc : kd.wrap (a + b) = c) : Rn P ρ ⟨d, .binOp .add t x y u, ty, pos, af, none⟩ w (.int kd c) :=
  ⟨rfl, fun w' _ => by simp [execOp, hx, hy, eqGuard, binOp, Op.intArith, hc]⟩
theorem sbw {t u : TypeId} {x y : Operand} {kd : IntKind} {a b : Int} (c : Int) (hx : ev ρ x = .int kd a) (hy : ev ρ y = .int kd b) (hc : kd.wrap (a - b) = c) : Rn P ρ ⟨d, .binOp .sub t x y u, ty, pos, af, none⟩ w (.int kd c) :=
  ⟨rfl, fun w' _ => by simp [execOp, hx, hy, eqGuard, binOp, Op.intArith, hc]⟩
theorem dvw {t u : TypeId} {x y : Operand} {kd : IntKind} {a b : Int} (c : Int) (hx : ev ρ x = .int kd a) (hy : ev ρ y = .int kd b) (hc : b ≠ 0 ∧ kd.wrap (a.tdiv b) = c) : Rn P ρ ⟨d, .binOp .quo t x y u, ty, pos, af, none⟩ w (.int kd c) :=
  ⟨rfl, fun w' _ => by simp [execOp, hx, hy, eqGuard, binOp, Op.intArith, Op.intDiv, hc.1, hc.2]⟩
theorem rmw {t u : TypeId} {x y : Operand} {kd : IntKind} {a b : Int} (c : Int) (hx : ev ρ x = .int kd a) (hy : ev ρ y = .int kd b) (hc : b ≠ 0 ∧ a.tmod b = c) : Rn P ρ ⟨d, .binOp .rem t x y u, ty, pos, af, none⟩ w (.int kd c) :=
  ⟨rfl, fun w' _ => by simp [execOp, hx, hy, eqGuard, binOp, Op.intArith, Op.intDiv, hc.1, hc.2]⟩
theorem B.shape {g : Nat} {T : TypeId} {cs : List Value} (h : B w g T cs) : w.shape? g = some (T, cs.length) := by simp [World.shape?, show w.heap[g]? = _ from h]
theorem cvu {s t e T : TypeId} {z : Value} {sz by_ : Nat} {x : Operand} {g : Nat} {cs : List Value} (hs : P.underlying s = some (.pointer e)) (ht : P.underlying t = some .unsafePointer) (hi : TI P e z sz by_) (hB : B w g T cs) (hx : ev ρ x = .pointer (some ⟨g, 0, none⟩)) (h0 : sz ≠ 0) (hl : 0 < cs.length) : Rn P ρ ⟨d, .convert s t x, ty, pos, af, none⟩ w (.pointer (some ⟨g, 0, none⟩)) := by
  obtain ⟨i0, hi0, _, hsz, _⟩ := info_parts hi
  refine ⟨rfl, fun w' hw => ?_⟩
  have h := Go.Lib.run_to_unsafe (P := P) w' ⟨g, 0, none⟩ hs ht hi0 (by rw [hsz]; exact h0) (hw.b0 hB).shape hl
  simp only [execOp, hx, Sem.run_bind, h, Result.andThen_ok, Sem.run_pure]
theorem cvdn {s t e T : TypeId} {z : Value} {sz by_ : Nat} {x : Operand} {g : Nat} {cs : List Value} (hs : P.underlying s = some .unsafePointer) (ht : P.underlying t = some (.pointer e)) (hi : TI P e z sz by_) (hB : B w g T cs) (hx : ev ρ x = .pointer (some ⟨g, 0, none⟩)) (hl : liesAt P P.depth T (cs.length / P.cellsOf T) 0 e 1 = true) : Rn P ρ ⟨d, .convert s t x, ty, pos, af, none⟩ w (.pointer (some ⟨g, 0, none⟩)) := by
  obtain ⟨i0, hi0, _, hsz, _⟩ := info_parts hi
  refine ⟨rfl, fun w' hw => ?_⟩
  have h := Go.Lib.run_from_unsafe (P := P) w' ⟨g, 0, none⟩ hs ht hi0 (hw.b0 hB).shape hl
  simp only [execOp, hx, Sem.run_bind, h, Result.andThen_ok, Sem.run_pure]
/-- A call of a function without a body whose entry gives a value at once. -/
theorem xtn {f : FuncId} {x : Operand} {v u : Value} {ts : Array TypeId} (hc : ∀ w : World, (callFunc f #[v]).run P w = .ok (.value u) w) (hx : ev ρ x = v) : Rn P ρ ⟨d, .call ⟨.value (.func f), #[x], ts⟩, ty, pos, af, none⟩ w u :=
  ⟨rfl, fun w' _ => by
    have h := hc w'
    rw [← hx] at h
    have e : execOp (ev ρ) ⟨d, .call ⟨.value (.func f), #[x], ts⟩, ty, pos, af, none⟩ = callFunc f #[ev ρ x] := by simp [execOp, resolve, Deferred.ofValue, invoke, show ev ρ (.func f) = .func (.func f) #[] #[] from rfl]
    have h2 : (callFunc f #[ev ρ x]).run P w' = .ok (.value u) w' := by
      have e2 : ev ρ x = v := hx
      rw [e2]; exact hc w'
    rw [e, h2]⟩
/-- A contract of the shelf, as a contract of mine. -/
theorem Ret.of {f : FuncId} {args : Array Value} {Φ : Value → World → Prop} {Ψ : Ending → World → Prop} (h : Calls P f args w Ψ) (hm : ∀ e w', Ψ e w' → ∃ v, e = .returned v ∧ Φ v w') : Ret P f args w Φ := Calls.mono h hm
theorem ch_below {w w' : World} (h : Go.RowKit.Below w.heap.size w w') : Ch [] w w' := ⟨h.os, h.tape, h.output, h.size, fun k hk _ => h.block k hk⟩
theorem tab_ch {w w' : World} {name : String} {k : IntKind} {zs : List Int} (h : Go.Lib.TabIs P w name k zs) (c : Ch [] w w') : Go.Lib.TabIs P w' name k zs := Go.Lib.tabBelow_of_tabIs h w' c.below
end
section
variable {P : Program} {w : World}
/-- append(dst, s...): a text's bytes onto a row of one's own. -/
theorem run_aps_str {t tx ty e : TypeId} {z : Value} {by_ : Nat} (ht : P.underlying t = some (.slice e)) (hk : P.underlying tx = some .string) (hi : TI P e z 1 by_) (hz : z.cells.size = 1) {F : List Nat} {v : Value} {xs : List Int} (hW : (Kd.int .u8).W e w F v xs)
    (hn : F.Nodup) (s : ByteArray) (hb : (xs.length + s.size) * by_ ≤ 140737488355328 ∧ xs.length + s.size ≤ 140737488355328) :
    ∃ v' w' F', (Builtin.append_ #[t, tx] ty #[v, .string s]).run P w = .ok v' w' ∧ Apd (Kd.int .u8) e w w' F [] F' v v' (xs ++ nums8 s) := by
  have hW' := hW
  obtain ⟨i0, hi0, hz0, hsz, hby⟩ := hi.size
  obtain ⟨Fs, cs, ho, rfl, he⟩ := hW
  have hcs : cs = xs.map (Value.int .u8) := els_int_inv (k := .u8) (he.imp fun _ _ _ _ h => (Kd.int .u8).own h)
  have hbc : byteCells s = (nums8 s).map (Value.int .u8) := by simp [byteCells, nums8]
  have hbl : (byteCells s).length = s.size := byteCells_length s
  have hFs : Fs = [] := by
    have : ∀ (xs : List Int) {F cs}, Els ((Kd.int .u8).O w) F xs cs → F = [] := by
      intro xs
      induction xs with
      | nil => rintro F cs ⟨h, _⟩; exact h
      | cons x xs ih => rintro F cs ⟨F1, F2, c1, c2, rfl, rfl, h1, h2⟩; rw [h1.2, ih h2]; rfl
    exact this xs he
  subst hFs
  have hnew : ∀ (w' : World) (v' : Value), w'.ownsRow 0 e 1 v' (xs.length + s.size) (cs ++ byteCells s) → (Kd.int .u8).W e w' v'.ownBlock.toList v' (xs ++ nums8 s) := fun w' v' h => by
    refine ⟨[], cs ++ byteCells s, ?_, by simp, ?_⟩
    · rw [List.length_append, nums8_len]; exact h
    · rw [hcs, hbc, ← List.map_append]; exact els_int _
  have fin : ∀ (v' : Value) (w' : World), w'.ownsRow 0 e 1 v' (xs.length + s.size) (cs ++ byteCells s) → w.grownBy w' v.ownBlock → (v'.ownBlock = v.ownBlock ∨ v'.ownBlock = some w.heap.size) → Apd (Kd.int .u8) e w w' (v.ownBlock.toList ++ []) [] v'.ownBlock.toList v v' (xs ++ nums8 s) := fun v' w' h1 h3 h5 => by
    have hch : Ch v.ownBlock.toList w w' := ⟨h3.os, h3.tape, h3.output, h3.size, fun k hk hnk => h3.block k hk (fun e => hnk (own_toList.2 e.symm))⟩
    refine ⟨hnew w' v' h1, by cases v'.ownBlock <;> simp, fun k hk => ?_, hch⟩
    rcases h5 with h5 | h5
    · rw [h5] at hk; exact .inl (by simpa using hk)
    · rw [h5] at hk; simp at hk; exact .inr (.inr (by omega))
  have hsrc : Src P i0.size tx (.string s) s.size (byteCells s) w := by rw [hsz]; exact Src.ofString w hk s
  have hl0 : cs.length = xs.length := by rw [hcs, List.length_map]
  rcases ho.2 with ⟨rfl, hx0⟩ | ⟨g, cap, cur, rfl, hbg, hg, hnc, hcm, hcur, htake⟩
  · have hx : xs = [] := List.eq_nil_of_length_eq_zero hx0
    subst hx
    have hc0 : cs = [] := by simpa using hcs
    subst hc0
    by_cases hm : s.size = 0
    · have hb0 : byteCells s = [] := List.eq_nil_of_length_eq_zero (by rw [hbl, hm])
      refine ⟨.slice none 0 0, w, _, ?_, fin _ _ (by rw [hb0, hm]; exact World.ownsRow_nil w 0 e 1) ⟨rfl, rfl, rfl, Nat.le_refl _, fun _ _ _ => rfl⟩ (.inl rfl)⟩
      have hf := firstCells_string (P := P) s w
      rw [hb0] at hf
      simp [Builtin.append_, run_underlying ht, run_underlying hk, sizeOf, typeInfo, hi0, Builtin.lenOf, hm, hsz]
      rw [hm] at hf
      simp [hf]
    · have hr := run_append_grow_src (P := P) w t tx ty e i0 z ht hi0 hz0 none 0 0 [] (by rw [hsz]; simp [Builtin.firstCells]) (.string s) s.size (byteCells s) hsrc (by omega) (by omega) (by rw [hby]; exact growslice_fits (by omega) (by simpa using hb.1))
      refine ⟨_, _, _, hr, fin _ _ ⟨by simp [hbl], .inr ⟨w.heap.size, grownCap w (0 + s.size) 0 e, _, by simp, Nat.zero_le _, heap_alloc_new w.drew _, grownCap_ge w _ _ e, grownCap_le_maxLen w _ _ e (by simp only [maxLen]; omega), ?_, ?_⟩⟩ ⟨rfl, rfl, rfl, by simp, fun k hk _ => Go.RowKit.Below.heap_alloc w.drew _ _ hk⟩ (.inr rfl)⟩
      · have hge := grownCap_ge w (0 + s.size) 0 e
        simp only [Array.size_append, List.size_toArray, size_zeroCells, hz, List.nil_append, hbl, Nat.mul_one]
        omega
      · simp only [Array.toList_append, List.nil_append, Nat.mul_one, List.length_nil, Nat.zero_add]
        rw [← hbl]
        exact List.take_left
  · rw [show (Kd.int .u8).sz = 1 from rfl, Nat.mul_one] at hcur htake
    by_cases hroom : xs.length + s.size ≤ cap
    · have hst := run_storeCells_at P g xs.length e (byteCells s) 0 cur w hg (by rw [hbl]; omega) (fun u hu => hsrc.one u hu)
      simp only [Nat.add_zero] at hst
      refine ⟨.slice (some ⟨g, 0, none⟩) (xs.length + s.size) cap, w.setRow g (cur.toList.take xs.length ++ byteCells s ++ cur.toList.drop (xs.length + (byteCells s).length)).toArray, _, ?_, fin _ _ ⟨by simp [hbl, hl0], .inr ⟨g, cap, _, rfl, Nat.zero_le _, setRow_heap w g cur _ e _ hg, hroom, hcm, ?_, ?_⟩⟩ ⟨rfl, rfl, rfl, by simp, fun k _ hk => setRow_other w g k _ (fun e => hk (by simp [Value.ownBlock, e]))⟩ (.inl rfl)⟩
      · have hf := firstCells_string (P := P) s w
        simp [Builtin.append_, run_underlying ht, run_underlying hk, sizeOf, typeInfo, hi0, Builtin.lenOf, hroom, hsz, hf, add_mk, hst]
      · simp only [List.size_toArray, List.length_append, List.length_take, List.length_drop, Array.length_toList, hbl]
        omega
      · rw [htake, Nat.mul_one, show xs.length + s.size = (cs ++ byteCells s).length by simp [hbl, hl0]]
        exact List.take_left
    · have holds : ∀ j u, cs[j]? = some u → w.cell? ((⟨g, 0, none⟩ : Addr).add j) = some u := ho.cells (g := g) rfl
      have hr := run_append_grow_src (P := P) w t tx ty e i0 z ht hi0 hz0 (some ⟨g, 0, none⟩) xs.length cap cs (by rw [hsz]; exact run_firstCells_some w.drew 1 xs.length ⟨g, 0, none⟩ xs.length cap cs (by simp [hl0]) (by simpa using holds)) (.string s) s.size (byteCells s) hsrc (by omega) (by omega) (by rw [hby]; exact growslice_fits (by omega) hb.1)
      refine ⟨_, _, _, hr, fin _ _ ⟨by simp [hbl, hl0], .inr ⟨w.heap.size, _, _, rfl, Nat.zero_le _, heap_alloc_new w.drew _, grownCap_ge w _ _ e, grownCap_le_maxLen w _ _ e (by simp only [maxLen]; omega), ?_, ?_⟩⟩ ⟨rfl, rfl, rfl, by simp, fun k hk _ => Go.RowKit.Below.heap_alloc w.drew _ _ hk⟩ (.inr rfl)⟩
      · have hge := grownCap_ge w (xs.length + s.size) cap e
        simp only [Array.size_append, List.size_toArray, size_zeroCells, hz, List.length_append, hbl, hl0, Nat.mul_one]
        omega
      · simp only [Array.toList_append, Nat.mul_one]
        rw [show xs.length + s.size = (cs ++ byteCells s).length by simp [hbl, hl0]]
        exact List.take_left
theorem apst {ρ : Fr} {d : Option Nat} {ty : TypeId} {pos : String} {af : Array Edge} {t tx e : TypeId} {z : Value} {by_ : Nat} {a x : Operand} {F : List Nat} {v : Value} {xs : List Int} {s : ByteArray} (ht : P.underlying t = some (.slice e)) (hk : P.underlying tx = some .string) (hi : TI P e z 1 by_) (hz : z.cells.size = 1) (hs : ev ρ a = v) (hx : ev ρ x = .string s) (hW : (Kd.int .u8).W e w F v xs) (hn : F.Nodup) (hb : (xs.length + s.size) * by_ ≤ 140737488355328 ∧ xs.length + s.size ≤ 140737488355328) :
    Ex P ρ ⟨d, .call ⟨.builtin .append, #[a, x], #[t, tx]⟩, ty, pos, af, none⟩ w (fun v' w' => ∃ F', Apd (Kd.int .u8) e w w' F [] F' v v' (xs ++ nums8 s)) := by
  obtain ⟨v', w', F', hr, hA⟩ := run_aps_str (P := P) (ty := ty) ht hk hi hz hW hn s hb
  exact ⟨rfl, v', w', by simp [execOp, resolve, invoke, builtin, hs, hx, hr], F', hA⟩
end
end Go.Eng
