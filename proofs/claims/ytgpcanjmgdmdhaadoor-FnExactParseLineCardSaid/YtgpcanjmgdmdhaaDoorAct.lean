/-
  LAWS ON SLICING, copy, TEXTS, ARRAYS THAT ARE COMPARED, INTERFACES, OF MY OWN: over any program. No condition.
-/
import Derived.Test.YtgpcanjmgdmdhaaDoorRegE
import Derived.ChangeKeysEq
import Derived.Laws.IdiomStrings
import Derived.Laws.Strings
import Derived.Laws.IdiomCopy
namespace Go.Eng
set_option linter.unusedVariables false
set_option linter.unusedSimpArgs false

/-! ### Slicing -/
/-- The value v, sliced from l to h; sz: an element's cells. -/
def slv (v : Value) (l h sz : Nat) : Value := match v with
  | .slice a _ cap => .slice (if cap = l then a else a.map (·.add (l * sz))) (h - l) (cap - l)
  | v => v
theorem Els.cut {α : Type} {R : List Nat → α → List Value → Prop} {sz : Nat} (hl : ∀ F x c, R F x c → c.length = sz) {xs : List α} : ∀ {F : List Nat} {cs : List Value} (i : Nat), i ≤ xs.length → Els R F xs cs →
    ∃ Fa Fb, F = Fa ++ Fb ∧ Els R Fa (xs.take i) (cs.take (i * sz)) ∧ Els R Fb (xs.drop i) (cs.drop (i * sz)) := by
  induction xs with
  | nil =>
    rintro F cs i hi ⟨rfl, rfl⟩
    exact ⟨[], [], rfl, by simpa using ⟨rfl, rfl⟩, by simpa using ⟨rfl, rfl⟩⟩
  | cons x xs ih =>
    rintro F cs i hi ⟨F1, F2, c1, c2, rfl, rfl, h1, h2⟩
    cases i with
    | zero => exact ⟨[], F1 ++ F2, rfl, by simpa using ⟨rfl, rfl⟩, by simpa using ⟨F1, F2, c1, c2, rfl, rfl, h1, h2⟩⟩
    | succ i =>
      obtain ⟨Fa, Fb, rfl, ha, hb⟩ := ih i (by simpa using hi) h2
      have e : (i + 1) * sz = c1.length + i * sz := by rw [hl _ _ _ h1, Nat.add_mul, Nat.one_mul, Nat.add_comm]
      refine ⟨F1 ++ Fa, Fb, by simp, ?_, ?_⟩
      · rw [e, List.take_length_add_append]
        exact ⟨F1, Fa, c1, _, rfl, rfl, h1, ha⟩
      · rw [e, List.drop_length_add_append]
        exact hb
theorem Kd.R.sl {α : Type} {dk : Kd α} {w : World} {F : List Nat} {v : Value} {xs : List α} (h : dk.R w F v xs) (l u : Nat) (hl : l ≤ u) (hu : u ≤ xs.length) : ∃ F', (∀ k, k ∈ F' → k ∈ F) ∧ dk.R w F' (slv v l u dk.sz) ((xs.take u).drop l) := by
  obtain ⟨A, c, G, Fs, cs, rfl, hc, rfl, hG, he, hr⟩ := h
  obtain ⟨Fa, Fb, rfl, ha, _⟩ := he.cut (fun _ _ _ h => dk.len h) u hu
  obtain ⟨Fc, Fd, rfl, _, hd⟩ := ha.cut (fun _ _ _ h => dk.len h) l (by simp; omega)
  refine ⟨G ++ Fd, fun k hk => ?_, ?_⟩
  · simp only [List.mem_append] at hk ⊢
    rcases hk with hk | hk
    · exact .inl hk
    · exact .inr (.inl (.inr hk))
  refine ⟨_, c - l, G, Fd, _, by rw [show ((xs.take u).drop l).length = u - l by simp; omega]; rfl, by simp; omega, rfl, hG, hd, fun j x hx => ?_⟩
  rw [List.getElem?_drop, List.getElem?_take] at hx
  split at hx
  · rename_i hlt
    obtain ⟨ad, rfl, e2, e3⟩ := hr _ x hx
    have hcl : ¬ c = l := by
      intro e
      have : u * dk.sz = l * dk.sz := by rw [show u = l by omega]
      omega
    refine ⟨ad.add (l * dk.sz), by rw [if_neg hcl]; rfl, by rw [add_block]; exact e2, by rw [add_add]; exact e3⟩
  · cases hx

section
variable {P : Program} {n : Nat} {k : List It} {Qf : Exit → Act → World → Prop} {ρ : Fr} {ds : List Deferred} {w : World}
variable {ops : Array Oper} {rest : List Oper} {d : Option Nat} {ty : TypeId} {pos : String} {af : Array Edge}
theorem Kd.R.cap {α : Type} {dk : Kd α} {F : List Nat} {v : Value} {xs : List α} (h : dk.R w F v xs) : ∃ A c, v = .slice A xs.length c ∧ xs.length ≤ c := h.shape
theorem slr {α : Type} {dk : Kd α} {F : List Nat} {v : Value} {xs : List α} {t e : TypeId} {z : Value} {by_ : Nat} {x y1 y2 : Operand} {k1 k2 : IntKind} (l u : Nat) (ht : P.underlying t = some (.slice e)) (hi : TI P e z dk.sz by_) (hR : dk.R w F v xs) (hx : ev ρ x = v) (h1 : ev ρ y1 = .int k1 (l : Int)) (h2 : ev ρ y2 = .int k2 (u : Int)) (hb : l ≤ u ∧ u ≤ xs.length) :
    Rn P ρ ⟨d, .slice t x (some y1) (some y2) none, ty, pos, af, none⟩ w (slv v l u dk.sz) := by
  obtain ⟨A, c, rfl, hc⟩ := hR.shape
  obtain ⟨i0, hi0, _, hsz, _⟩ := hi.size
  refine ⟨rfl, fun w' _ => ?_⟩
  simp [execOp, hx, h1, h2, Instr.sliceAt, run_underlying ht, Instr.slice, Instr.sliceBounds, run_sliceBound, sizeOf, typeInfo, hi0, run_program, hsz, slv, hb.1, show u ≤ c by omega]
theorem slrh {α : Type} {dk : Kd α} {F : List Nat} {v : Value} {xs : List α} {t e : TypeId} {z : Value} {by_ : Nat} {x y2 : Operand} {k2 : IntKind} (u : Nat) (ht : P.underlying t = some (.slice e)) (hi : TI P e z dk.sz by_) (hR : dk.R w F v xs) (hx : ev ρ x = v) (h2 : ev ρ y2 = .int k2 (u : Int)) (hb : u ≤ xs.length) :
    Rn P ρ ⟨d, .slice t x none (some y2) none, ty, pos, af, none⟩ w (slv v 0 u dk.sz) := by
  obtain ⟨A, c, rfl, hc⟩ := hR.shape
  obtain ⟨i0, hi0, _, hsz, _⟩ := hi.size
  refine ⟨rfl, fun w' _ => ?_⟩
  simp [execOp, hx, h2, Instr.sliceAt, run_underlying ht, Instr.slice, Instr.sliceBounds, run_sliceBound, sizeOf, typeInfo, hi0, run_program, hsz, slv, show u ≤ c by omega]
theorem slrl {α : Type} {dk : Kd α} {F : List Nat} {v : Value} {xs : List α} {t e : TypeId} {z : Value} {by_ : Nat} {x y1 : Operand} {k1 : IntKind} (l : Nat) (ht : P.underlying t = some (.slice e)) (hi : TI P e z dk.sz by_) (hR : dk.R w F v xs) (hx : ev ρ x = v) (h1 : ev ρ y1 = .int k1 (l : Int)) (hb : l ≤ xs.length) :
    Rn P ρ ⟨d, .slice t x (some y1) none none, ty, pos, af, none⟩ w (slv v l xs.length dk.sz) := by
  obtain ⟨A, c, rfl, hc⟩ := hR.shape
  obtain ⟨i0, hi0, _, hsz, _⟩ := hi.size
  refine ⟨rfl, fun w' _ => ?_⟩
  simp [execOp, hx, h1, Instr.sliceAt, run_underlying ht, Instr.slice, Instr.sliceBounds, run_sliceBound, sizeOf, typeInfo, hi0, run_program, hsz, slv, hb]
/-- 'b[:]', 'b[l:]' of an array. -/
theorem slal {arr e : TypeId} {m l : Nat} {x y : Operand} {p : Addr} {z : Value} {sz by_ : Nat} {kd : IntKind} (hu : P.underlying arr = some (.array m e)) (hi : TI P e z sz by_) (hx : ev ρ x = .pointer (some p)) (hy : ev ρ y = .int kd (l : Int)) (hl : l ≤ m) : Rn P ρ ⟨d, .slice arr x (some y) none none, ty, pos, af, none⟩ w (slv (.slice (some p) m m) l m sz) := by
  obtain ⟨i0, hi0, hz, hsz, _⟩ := info_parts hi
  refine ⟨rfl, fun w' _ => ?_⟩
  by_cases e : m = l
  · simp [execOp, hx, hy, Instr.sliceAt, run_underlying hu, Instr.sureAddr, Instr.sliceBounds, run_sliceBound, sizeOf, typeInfo, hi0, Addr.add, slv, hl, hsz, e, run_program]
  · simp [execOp, hx, hy, Instr.sliceAt, run_underlying hu, Instr.sureAddr, Instr.sliceBounds, run_sliceBound, sizeOf, typeInfo, hi0, slv, hl, hsz, e, run_program]
theorem nck {x : Operand} {p : Addr} (hx : ev ρ x = .pointer (some p)) : Rn P ρ ⟨d, .nilCheck x, ty, pos, af, none⟩ w (.pointer (some p)) :=
  ⟨rfl, fun w' _ => by simp [execOp, hx]⟩

/-! ### Texts -/
def mkS (xs : List Int) : ByteArray := xs.foldl (fun r n => r.push (UInt8.ofNat n.toNat)) ByteArray.empty
theorem mkS_data (xs : List Int) : (mkS xs).data.toList = xs.map (fun n => UInt8.ofNat n.toNat) := by
  have : ∀ (xs : List Int) (r : ByteArray), (xs.foldl (fun r n => r.push (UInt8.ofNat n.toNat)) r).data.toList = r.data.toList ++ xs.map (fun n => UInt8.ofNat n.toNat) := by
    intro xs
    induction xs with
    | nil => simp
    | cons x xs ih =>
      intro r
      rw [List.foldl_cons, ih]
      simp [ByteArray.push]
  simpa [mkS] using this xs ByteArray.empty
theorem mkS_size (xs : List Int) : (mkS xs).size = xs.length := by
  have := congrArg List.length (mkS_data xs)
  rw [List.length_map, Array.length_toList] at this
  exact this
theorem ba_ext {s t : ByteArray} (h : s.data.toList = t.data.toList) : s = t := by
  cases s; cases t
  simp only at h
  congr 1
  exact Array.toList_inj.1 h
def ok8 (xs : List Int) : Prop := ∀ x, x ∈ xs → 0 ≤ x ∧ x ≤ 255
theorem mkS_inj {xs ys : List Int} (hx : ok8 xs) (hy : ok8 ys) (h : mkS xs = mkS ys) : xs = ys := by
  replace h := congrArg (fun s => s.data.toList) h
  simp only [mkS_data] at h
  induction xs generalizing ys with
  | nil => cases ys with
    | nil => rfl
    | cons y ys => simp at h
  | cons x xs ih =>
    cases ys with
    | nil => simp at h
    | cons y ys =>
      simp only [List.map_cons, List.cons.injEq] at h
      have h1 := hx x (by simp)
      have h2 := hy y (by simp)
      have e : x = y := by
        have := congrArg UInt8.toNat h.1
        simp only [UInt8.toNat_ofNat'] at this
        omega
      rw [e, ih (fun z hz => hx z (by simp [hz])) (fun z hz => hy z (by simp [hz])) h.2]
/-- The bytes of a text, as numbers. -/
def nums8 (s : ByteArray) : List Int := s.data.toList.map (fun b => (b.toNat : Int))
theorem nums8_ok (s : ByteArray) : ok8 (nums8 s) := fun x hx => by
  obtain ⟨b, _, rfl⟩ := List.mem_map.1 hx
  have := b.toNat_lt
  omega
theorem nums8_len (s : ByteArray) : (nums8 s).length = s.size := by
  rw [nums8, List.length_map, Array.length_toList]
  rfl
theorem mkS_nums8 (s : ByteArray) : mkS (nums8 s) = s := by
  apply ba_ext
  rw [mkS_data, nums8, List.map_map]
  conv => rhs; rw [← List.map_id s.data.toList]
  apply List.map_congr_left
  intro b _
  simp
theorem nums8_mkS {xs : List Int} (h : ok8 xs) : nums8 (mkS xs) = xs := mkS_inj (nums8_ok _) h (mkS_nums8 _)
theorem cvbs {F : List Nat} {v : Value} {xs : List Int} {s t e : TypeId} {x : Operand} (hs : P.underlying s = some (.slice e)) (he : P.underlying e = some (.int .u8)) (ht : P.underlying t = some .string) (hR : (Kd.int .u8).R w F v xs) (hx : ev ρ x = v) : Rn P ρ ⟨d, .convert s t x, ty, pos, af, none⟩ w (.string (mkS xs)) := by
  refine ⟨rfl, fun w' hw => ?_⟩
  have hR' := hR.t hw
  obtain ⟨A, c, G, Fs, cs, rfl, hc, rfl, hG, hel, hr⟩ := hR'
  obtain rfl := els_int_inv hel
  have hcv : ∀ r, (Conv.bytesToString (.slice A xs.length c)).run P w' = r → (execOp (ev ρ) ⟨d, .convert s t x, ty, pos, af, none⟩).run P w' = r.andThen (fun v w' => .ok (.value v) w') := by
    intro r hr'
    simp only [execOp, hx, Sem.run_bind, run_convert_bytes_string w' s t e A xs.length c hs he ht, hr', Sem.run_pure]
  cases A with
  | none =>
    have hy : xs = [] := by
      cases xs with
      | nil => rfl
      | cons y ys =>
        obtain ⟨ad, e1, _⟩ := hr 0 (.int .u8 y) (by simp)
        cases e1
    subst hy
    rw [hcv (.ok (.string .empty) w') (by simp [Conv.bytesToString])]
    rfl
  | some a =>
    have hl := run_loadCells_list (P := P) w' a (xs.map (Value.int .u8)) (fun j u hu => by
      obtain ⟨ad, e1, _, e3⟩ := hr j u hu
      injection e1 with e1
      subst e1; exact e3)
    simp only [List.length_map] at hl
    rw [hcv _ (run_bytesToString w' a xs.length c xs hl)]
    rfl
theorem ba_beq (a b : ByteArray) : (a.toList == b.toList) = decide (a = b) := by
  by_cases e : a = b
  · subst e; simp
  · have : a.toList ≠ b.toList := fun h => e (by
      apply ba_ext
      rw [← ByteArray.toList_eq a, ← ByteArray.toList_eq b, h])
    rw [decide_eq_false e]
    simpa using this
theorem seq {t u : TypeId} {x y : Operand} {a b : ByteArray} (hx : ev ρ x = .string a) (hy : ev ρ y = .string b) : Rn P ρ ⟨d, .binOp .eql t x y u, ty, pos, af, none⟩ w (.bool (decide (a = b))) := by
  refine ⟨rfl, fun w' _ => ?_⟩
  simp [execOp, hx, hy, eqGuard, binOp, Op.stringOp, ba_beq]
theorem sne {t u : TypeId} {x y : Operand} {a b : ByteArray} (hx : ev ρ x = .string a) (hy : ev ρ y = .string b) : Rn P ρ ⟨d, .binOp .neq t x y u, ty, pos, af, none⟩ w (.bool (!decide (a = b))) := by
  refine ⟨rfl, fun w' _ => ?_⟩
  simp [execOp, hx, hy, eqGuard, binOp, Op.stringOp, ba_beq]
theorem sct {t u : TypeId} {x y : Operand} {a b : ByteArray} (hx : ev ρ x = .string a) (hy : ev ρ y = .string b) (hs : a.size + b.size ≤ 9223372036854775807) : Rn P ρ ⟨d, .binOp .add t x y u, ty, pos, af, none⟩ w (.string (a ++ b)) :=
  ⟨rfl, fun w' _ => by simp [execOp, hx, hy, eqGuard, binOp, Op.stringOp, show (a.size : Int) + b.size ≤ 9223372036854775807 by omega]⟩
theorem nums8_get {s : ByteArray} {i : Nat} (h : i < s.size) : (nums8 s)[i]'(by rw [nums8_len]; exact h) = (s[i].toNat : Int) := by
  simp [nums8]; rfl
/-- 's[i]'. -/
theorem six {t : TypeId} {x i : Operand} {s : ByteArray} {j : Nat} {kd : IntKind} (ht : P.underlying t = some .string) (hx : ev ρ x = .string s) (hi : ev ρ i = .int kd (j : Int)) (h : j < s.size) : Rn P ρ ⟨d, .index t x i, ty, pos, af, none⟩ w (.int .u8 ((nums8 s)[j]'(by rw [nums8_len]; exact h))) := by
  refine ⟨rfl, fun w' _ => ?_⟩
  rw [nums8_get h]
  simp [execOp, hx, hi, Instr.index, asIntOf, run_underlying ht, h]
/-- '[]byte(s)': a row that is read. -/
theorem cvsb {s t e : TypeId} {x : Operand} {a : ByteArray} (hs : P.underlying s = some .string) (ht : P.underlying t = some (.slice e)) (he : P.underlying e = some (.int .u8)) (hx : ev ρ x = .string a) :
    Ex P ρ ⟨d, .convert s t x, ty, pos, af, none⟩ w (fun v w' => (∃ g, g = w.heap.size ∧ w'.heap.size = g + 1 ∧ (Kd.int .u8).R w' [g] v (nums8 a)) ∧ Ch [] w w') := by
  have hr := run_bytes_of_string (P := P) w s t e a hs ht he
  obtain ⟨cap, hcap⟩ : ∃ cap, grownCap w a.size 0 e = cap := ⟨_, rfl⟩
  have hle : a.size ≤ cap := hcap ▸ grownCap_ge w a.size 0 e
  rw [hcap] at hr
  have hsz : (w.drew.alloc (.cells (bytesRow a cap) e ((bytesRow a cap).size, (bytesRow a cap).size + 1))).heap.size = w.heap.size + 1 := World.size_alloc _ _
  have hh : (w.drew.alloc (.cells (bytesRow a cap) e ((bytesRow a cap).size, (bytesRow a cap).size + 1))).heap[w.heap.size]? = some (.cells (bytesRow a cap) e ((bytesRow a cap).size, (bytesRow a cap).size + 1)) := heap_alloc_new w.drew _
  have hch : Ch [] w (w.drew.alloc (.cells (bytesRow a cap) e ((bytesRow a cap).size, (bytesRow a cap).size + 1))) := (ch_drew w (w.drawn + 1)).t (ch_alloc w.drew _)
  generalize w.drew.alloc (.cells (bytesRow a cap) e ((bytesRow a cap).size, (bytesRow a cap).size + 1)) = W at hr hsz hh hch
  refine ⟨rfl, .slice (some ⟨w.heap.size, 0, none⟩) a.size cap, W, (by simp only [execOp, hx, Sem.run_bind, hr, Result.andThen_ok, Sem.run_pure]), ⟨w.heap.size, rfl, hsz, ?_⟩, hch⟩
  refine ⟨_, cap, [w.heap.size], [], (nums8 a).map (Value.int .u8), by rw [nums8_len], by rw [nums8_len]; exact hle, by simp, fun k hk => ?_, els_int (w := w) (k := .u8) (nums8 a), fun j u hu => ⟨_, rfl, by simp, ?_⟩⟩
  · rw [List.mem_singleton.1 hk]; omega
  · rw [add_mk, Nat.zero_add]
    simp only [World.cell?, hh]
    have hj : j < a.size := by
      have := (List.getElem?_eq_some_iff.1 hu).1
      simpa [nums8_len] using this
    rw [← hu]
    have hj2 : j < a.data.size := hj
    have hj' : j < (a.data.map (fun b => Value.int .u8 (b.toNat : Int))).size := by simpa using hj2
    simp only [bytesRow]
    rw [Array.getElem?_append_left hj']
    simp [nums8]
    rfl
/-! ### Arrays of bytes, compared -/
theorem run_eqItems_byts {e : TypeId} (he : P.underlying e = some (.int .u8)) (hc : P.cellsOf e = 1) (dd : Nat) (xs ys : List Int) (w : World) : ∀ (is : List Nat), (∀ i, i ∈ is → i < xs.length ∧ i < ys.length) →
    (Op.eqItems (dd + 1) e 1 (byts xs).toArray (byts ys).toArray is).run P w = .ok (decide (∀ i, i ∈ is → xs[i]? = ys[i]?)) w := by
  intro is
  induction is with
  | nil => intro _; simp [Op.eqItems]
  | cons i is ih =>
    intro h
    obtain ⟨h1, h2⟩ := h i (by simp)
    have hp : ∀ (zs : List Int) (hz : i < zs.length), (part e (byts zs).toArray (i * 1)).run P w = .ok (.int .u8 zs[i]) w := by
      intro zs hz
      simp [part, isAgg, run_underlying he, byts, hz]
    simp only [Op.eqItems, Sem.run_bind, hp xs h1, hp ys h2, Result.andThen_ok, run_equalIn_int w dd e .u8 .u8 xs[i] ys[i] he]
    by_cases e1 : xs[i] = ys[i]
    · simp only [e1, beq_self_eq_true]
      simp [ih (fun j hj => h j (by simp [hj])), h1, h2, e1]
    · have : (xs[i] == ys[i]) = false := by simpa using e1
      simp [this, h1, h2, e1]
theorem eq_of_range {xs ys : List Int} {m : Nat} (hx : xs.length = m) (hy : ys.length = m) : (∀ i, i ∈ List.range m → xs[i]? = ys[i]?) ↔ xs = ys := by
  constructor
  · intro h
    apply List.ext_getElem?
    intro i
    by_cases hi : i < m
    · exact h i (by simpa using hi)
    · rw [List.getElem?_eq_none (by omega), List.getElem?_eq_none (by omega)]
  · rintro rfl; simp
theorem run_eq_byts {t e : TypeId} {m : Nat} {z : Value} {by_ : Nat} (ht : P.underlying t = some (.array m e)) (he : P.underlying e = some (.int .u8)) (hi : TI P e z 1 by_) {xs ys : List Int} (hx : xs.length = m) (hy : ys.length = m) (w : World) :
    (Op.equal t (.agg (byts xs).toArray) (.agg (byts ys).toArray)).run P w = .ok (decide (xs = ys)) w := by
  obtain ⟨i0, hi0, _, hsz, _⟩ := hi.size
  have hc : P.cellsOf e = 1 := by simp [Program.cellsOf, hi0, hsz]
  unfold Op.equal
  rw [show Op.maxDepth = 9999 + 1 from rfl, run_equalIn_array w 9999 _ _ ht hi0, hc, show (9999 : Nat) = 9998 + 1 from rfl, run_eqItems_byts he hc 9998 xs ys w _ (fun i hi => by simp at hi; omega)]
  congr 1
  exact decide_eq_decide.2 (eq_of_range hx hy)
theorem aeq {t u e : TypeId} {m : Nat} {z : Value} {by_ : Nat} {x y : Operand} {xs ys : List Int} (ht : P.underlying t = some (.array m e)) (he : P.underlying e = some (.int .u8)) (hi : TI P e z 1 by_) (hn : P.eqGuardType P.depth t = false) (hx : ev ρ x = .agg (byts xs).toArray) (hy : ev ρ y = .agg (byts ys).toArray) (lx : xs.length = m) (ly : ys.length = m) :
    Rn P ρ ⟨d, .binOp .eql t x y u, ty, pos, af, none⟩ w (.bool (decide (xs = ys))) := by
  refine ⟨rfl, fun w' _ => ?_⟩
  simp only [execOp, hx, hy, Sem.run_bind, run_eqGuard_agg w' .eql t _ _ _ _ hn, Result.andThen_ok, binOp, run_eq_byts ht he hi lx ly, Sem.run_pure]
theorem ane {t u e : TypeId} {m : Nat} {z : Value} {by_ : Nat} {x y : Operand} {xs ys : List Int} (ht : P.underlying t = some (.array m e)) (he : P.underlying e = some (.int .u8)) (hi : TI P e z 1 by_) (hn : P.eqGuardType P.depth t = false) (hx : ev ρ x = .agg (byts xs).toArray) (hy : ev ρ y = .agg (byts ys).toArray) (lx : xs.length = m) (ly : ys.length = m) :
    Rn P ρ ⟨d, .binOp .neq t x y u, ty, pos, af, none⟩ w (.bool (!decide (xs = ys))) := by
  refine ⟨rfl, fun w' _ => ?_⟩
  simp only [execOp, hx, hy, Sem.run_bind, run_eqGuard_agg w' .neq t _ _ _ _ hn, Result.andThen_ok, binOp, run_eq_byts ht he hi lx ly, Sem.run_pure]
/-- 'block(x)': the array that a row of bytes begins with. -/
theorem lar {arr e : TypeId} {m : Nat} {x : Operand} {F : List Nat} {v : Value} {xs : List Int} {p : Addr} {c : Nat} {z : Value} {by_ : Nat} (ht : P.underlying arr = some (.array m e)) (hi : TI P arr z m by_) (hv : v = .slice (some p) xs.length c) (hR : (Kd.int .u8).R w F v xs) (hm : 0 < m ∧ m ≤ xs.length) (hx : ev ρ x = .pointer (some p)) : Rn P ρ ⟨d, .load arr x, ty, pos, af, none⟩ w (.agg (byts (xs.take m)).toArray) := by
  obtain ⟨p', c', e1, h⟩ := hR.ints (by omega)
  subst hv
  simp only [Value.slice.injEq, Option.some.injEq] at e1
  obtain ⟨rfl, _, rfl⟩ := e1
  refine la (byts (xs.take m)) ht rfl hi hx (by simp [byts]; omega) (fun j u hu => h j u ?_)
  rw [byts, List.map_take, List.getElem?_take] at hu
  split at hu
  · exact hu
  · cases hu
theorem Kd.R.adr {F : List Nat} {v : Value} {xs : List Int} {kd : IntKind} (hR : (Kd.int kd).R w F v xs) (hm : 0 < xs.length) : ∃ p c, v = .slice (some p) xs.length c := let ⟨p, c, e, _⟩ := hR.ints hm; ⟨p, c, e⟩

/-! ### copy -/
theorem run_firstR {F : List Nat} {v : Value} {ys : List Int} (hR : (Kd.int .u8).R w F v ys) (m : Nat) (hm : m ≤ ys.length) : (Builtin.firstCells 1 m v).run P w = .ok (byts (ys.take m)).toArray w := by
  obtain ⟨A, c, G, Fs, cs, rfl, hc, rfl, hG, hel, hr⟩ := hR
  obtain rfl := els_int_inv hel
  cases A with
  | none =>
    have hy : ys = [] := by
      cases ys with
      | nil => rfl
      | cons y ys => obtain ⟨ad, e1, _⟩ := hr 0 (.int .u8 y) (by simp); cases e1
    subst hy
    simp [Builtin.firstCells, byts]
  | some a =>
    have hl := run_loadCells_list (P := P) w a (byts (ys.take m)) (fun j u hu => by
      rw [byts, List.map_take, List.getElem?_take] at hu
      split at hu
      · obtain ⟨ad, e1, _, e3⟩ := hr j u hu
        injection e1 with e1
        subst e1; exact e3
      · cases hu)
    simp only [byts, List.length_map, List.length_take, Nat.min_eq_left hm] at hl
    simpa [Builtin.firstCells, byts] using hl
theorem run_firstS {s : ByteArray} (m : Nat) (hm : m ≤ s.size) : (Builtin.firstCells 1 m (.string s)).run P w = .ok (byts ((nums8 s).take m)).toArray w := by
  have e : (s.extract 0 m).data.map (fun b => Value.int .u8 (b.toNat : Int)) = (byts ((nums8 s).take m)).toArray := by
    apply Array.toList_inj.1
    simp [byts, nums8, ByteArray.extract, ByteArray.copySlice, List.map_take]
    rfl
  simp only [Builtin.firstCells, Sem.run_pure, e]
theorem splice_byts {xs ys : List Int} {o : Nat} : splice (byts xs) o (byts ys) = byts (xs.take o ++ ys ++ xs.drop (o + ys.length)) := by
  simp [splice, byts, List.map_take, List.map_drop]
theorem splice_none {cs : List Value} {o : Nat} : splice cs o [] = cs := by simp [splice]
/-- 'copy(b[o:], src)' into an array of one's own. -/
theorem run_copy_into {tt st e : TypeId} {z : Value} {by_ : Nat} {g o dl dc : Nat} {T : TypeId} {cs : List Value} {sv : Value} {ys : List Int} (ht : P.underlying tt = some (.slice e)) (hi : TI P e z 1 by_) (hB : B w g T cs) (hs : (Builtin.lenOf sv).run P w = .ok ys.length w)
    (hf : ∀ m, m ≤ ys.length → (Builtin.firstCells 1 m sv).run P w = .ok (byts (ys.take m)).toArray w) (hle : o + min ys.length dl ≤ cs.length) :
    ∃ w', (Builtin.copy_ #[tt, st] ty #[.slice (some ⟨g, o, none⟩) dl dc, sv]).run P w = .ok (.int .i64 ((min ys.length dl : Nat) : Int)) w' ∧ w'.heap.size = w.heap.size ∧ B w' g T (splice cs o (byts (ys.take (min ys.length dl)))) ∧ Ch [g] w w' := by
  obtain ⟨i0, hi0, _, hsz, _⟩ := hi.size
  have hr := run_storeCells_at P g o T (byts (ys.take (min ys.length dl))) 0 cs.toArray w hB (by simp [byts]; omega) (byts_one _)
  simp only [Nat.add_zero, List.toList_toArray] at hr
  have h1 := hf (min ys.length dl) (Nat.min_le_left _ _)
  have h2 := setRow_heap w g cs.toArray (cs.take o ++ byts (ys.take (min ys.length dl)) ++ cs.drop (o + (byts (ys.take (min ys.length dl))).length)).toArray T (0, 0) hB
  have h3 := ch_setRow w g (cs.take o ++ byts (ys.take (min ys.length dl)) ++ cs.drop (o + (byts (ys.take (min ys.length dl))).length)).toArray
  have h4 : (w.setRow g (cs.take o ++ byts (ys.take (min ys.length dl)) ++ cs.drop (o + (byts (ys.take (min ys.length dl))).length)).toArray).heap.size = w.heap.size := by simp [World.setRow]
  generalize w.setRow g (cs.take o ++ byts (ys.take (min ys.length dl)) ++ cs.drop (o + (byts (ys.take (min ys.length dl))).length)).toArray = W at hr h2 h3 h4
  refine ⟨W, ?_, h4, h2, h3⟩
  have hmin : Nat.min ys.length dl = min ys.length dl := rfl
  simp only [Builtin.copy_, List.getElem?_toArray, List.getElem?_cons_zero, List.getElem?_cons_succ, Sem.run_bind, run_underlying ht, Result.andThen_ok, hs, sizeOf, typeInfo, hi0, run_program, hsz, Sem.run_pure, hmin, h1, hr]
  simp [goInt, hr]
theorem run_lenR {α : Type} {dk : Kd α} {F : List Nat} {v : Value} {ys : List α} (hR : dk.R w F v ys) : (Builtin.lenOf v).run P w = .ok ys.length w := by
  obtain ⟨A, c, rfl, _⟩ := hR.shape
  simp [Builtin.lenOf]
theorem slv_blk {g m l : Nat} : slv (.slice (some ⟨g, 0, none⟩) m m) l m 1 = .slice (some ⟨g, if m = l then 0 else l, none⟩) (m - l) (m - l) := by
  by_cases e : m = l
  · simp [slv, e]
  · simp [slv, e, add_mk]
theorem run_copyop {tt st : TypeId} {x y : Operand} {r : Result Value} {dv sv : Value} (hx : ev ρ x = dv) (hy : ev ρ y = sv) (h : (Builtin.copy_ #[tt, st] ty #[dv, sv]).run P w = r) : (execOp (ev ρ) ⟨d, .call ⟨.builtin .copy, #[x, y], #[tt, st]⟩, ty, pos, af, none⟩).run P w = r.andThen (fun v w' => .ok (.value v) w') := by
  simp [execOp, resolve, invoke, builtin, hx, hy, h]
/-- Into an array of bytes, from l on; the source: a row, or a text. -/
theorem cpa {tt st e : TypeId} {z : Value} {by_ : Nat} {x y : Operand} {g l m : Nat} {T : TypeId} {F : List Nat} {sv : Value} {xs ys : List Int} (ht : P.underlying tt = some (.slice e)) (hi : TI P e z 1 by_) (hx : ev ρ x = slv (.slice (some ⟨g, 0, none⟩) m m) l m 1) (hy : ev ρ y = sv) (hB : B w g T (byts xs)) (hl : xs.length = m ∧ l ≤ m) (hR : (Kd.int .u8).R w F sv ys) :
    Ex P ρ ⟨d, .call ⟨.builtin .copy, #[x, y], #[tt, st]⟩, ty, pos, af, none⟩ w (fun r w' => r = .int .i64 (min ys.length (m - l) : Nat) ∧ w'.heap.size = w.heap.size ∧ B w' g T (byts (xs.take l ++ ys.take (m - l) ++ xs.drop (l + ys.length))) ∧ Ch [g] w w') := by
  rw [slv_blk] at hx
  obtain ⟨w', h1, h2, h3, h4⟩ := run_copy_into (P := P) (ty := ty) (st := st) (dl := m - l) (dc := m - l) (o := if m = l then 0 else l) ht hi hB (run_lenR hR) (fun m hm => run_firstR hR m hm) (by simp [byts]; split <;> omega)
  refine ⟨rfl, _, w', run_copyop hx hy h1, rfl, h2, ?_, h4⟩
  rw [splice_byts] at h3
  refine (congrArg (B w' g T) (congrArg byts ?_)).mp h3
  by_cases em : m = l
  · subst em
    simp only [if_true, Nat.sub_self, Nat.min_zero, List.take_zero, List.length_nil, List.append_nil, List.nil_append, Nat.add_zero, List.drop_zero]
    rw [List.take_of_length_le (Nat.le_of_eq hl.1), List.drop_eq_nil_of_le (by omega), List.append_nil]
  · rw [if_neg em]
    by_cases hle : ys.length ≤ m - l
    · rw [Nat.min_eq_left hle, List.take_length, List.take_of_length_le hle]
    · rw [Nat.min_eq_right (by omega), List.length_take, Nat.min_eq_left (by omega), show l + (m - l) = m by omega, List.drop_eq_nil_of_le (by omega), List.drop_eq_nil_of_le (by omega)]
theorem cpas {tt st e : TypeId} {z : Value} {by_ : Nat} {x y : Operand} {g l m : Nat} {T : TypeId} {s : ByteArray} {xs : List Int} (ht : P.underlying tt = some (.slice e)) (hi : TI P e z 1 by_) (hx : ev ρ x = slv (.slice (some ⟨g, 0, none⟩) m m) l m 1) (hy : ev ρ y = .string s) (hB : B w g T (byts xs)) (hl : xs.length = m ∧ l ≤ m) :
    Ex P ρ ⟨d, .call ⟨.builtin .copy, #[x, y], #[tt, st]⟩, ty, pos, af, none⟩ w (fun r w' => r = .int .i64 (min (nums8 s).length (m - l) : Nat) ∧ w'.heap.size = w.heap.size ∧ B w' g T (byts (xs.take l ++ (nums8 s).take (m - l) ++ xs.drop (l + (nums8 s).length))) ∧ Ch [g] w w') := by
  rw [slv_blk] at hx
  obtain ⟨w', h1, h2, h3, h4⟩ := run_copy_into (P := P) (ty := ty) (st := st) (ys := nums8 s) (sv := .string s) (dl := m - l) (dc := m - l) (o := if m = l then 0 else l) ht hi hB (by simp [Builtin.lenOf, nums8_len]) (fun m hm => run_firstS m (by rw [← nums8_len]; exact hm)) (by simp [byts]; split <;> omega)
  refine ⟨rfl, _, w', run_copyop hx hy h1, rfl, h2, ?_, h4⟩
  rw [splice_byts] at h3
  refine (congrArg (B w' g T) (congrArg byts ?_)).mp h3
  by_cases em : m = l
  · subst em
    simp only [if_true, Nat.sub_self, Nat.min_zero, List.take_zero, List.length_nil, List.append_nil, List.nil_append, Nat.add_zero, List.drop_zero]
    rw [List.take_of_length_le (Nat.le_of_eq hl.1), List.drop_eq_nil_of_le (by omega), List.append_nil]
  · rw [if_neg em]
    by_cases hle : (nums8 s).length ≤ m - l
    · rw [Nat.min_eq_left hle, List.take_length, List.take_of_length_le hle]
    · rw [Nat.min_eq_right (by omega), List.length_take, Nat.min_eq_left (by omega), show l + (m - l) = m by omega, List.drop_eq_nil_of_le (by omega), List.drop_eq_nil_of_le (by omega)]
end
end Go.Eng
