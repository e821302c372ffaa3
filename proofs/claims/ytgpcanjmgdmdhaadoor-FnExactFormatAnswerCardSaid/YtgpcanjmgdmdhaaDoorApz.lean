/-
  BYTES OF A TEXT THAT ARE APPENDED TO, OF MY OWN: '[]byte(s)' gives a block that bears a mark; a row by its cells. Over any program. No condition.
-/
import Derived.Test.YtgpcanjmgdmdhaaDoorStr
import Derived.Deep.Upon
namespace Go.Eng
set_option linter.unusedVariables false
set_option linter.unusedSimpArgs false
@[simp] theorem sizeCells (b : Nat) : ∀ (vs : List Value) (o : Nat) (w : World), (w.setCells b o vs).heap.size = w.heap.size
  | [], _, _ => rfl
  | v :: r, o, w => by rw [World.setCells, sizeCells b r]; simp
theorem tapeCells (b : Nat) : ∀ (vs : List Value) (o : Nat) (w : World), (w.setCells b o vs).tape = w.tape
  | [], _, _ => rfl
  | v :: r, o, w => by rw [World.setCells, tapeCells b r]; rfl
def MW (w : World) (F : List Nat) (v : Value) (xs : List Int) : Prop :=
  ∃ g cap, v = .slice (some ⟨g, 0, none⟩) xs.length cap ∧ F = [g] ∧ g < w.heap.size ∧ xs.length ≤ cap ∧
    (∀ j u, (xs.map (Value.int .u8))[j]? = some u → w.cell? ⟨g, j, none⟩ = some u) ∧
    ∀ j, xs.length ≤ j → j < cap → (w.cell? ⟨g, j, none⟩).isSome = true ∧ w.frozen? ⟨g, j, none⟩ = false
theorem cell_mv {w w' : World} {g : Nat} (h : w'.heap[g]? = w.heap[g]?) (j : Nat) : w'.cell? ⟨g, j, none⟩ = w.cell? ⟨g, j, none⟩ := by simp [World.cell?, h]
theorem frz_mv {w w' : World} {g : Nat} (h : w'.heap[g]? = w.heap[g]?) (j : Nat) : w'.frozen? ⟨g, j, none⟩ = w.frozen? ⟨g, j, none⟩ := by simp [World.frozen?, h]
def rZ (v : Value) (xs : List Int) : Rs where
  P w F := MW w F v xs
  mv := fun hm ⟨g, cap, h1, h2, h3, h4, h5, h6⟩ => by
    have hg := hm g (by rw [h2]; simp)
    refine ⟨g, cap, h1, h2, ?_, h4, fun j u hu => by rw [cell_mv hg]; exact h5 j u hu, fun j a b => by rw [cell_mv hg, frz_mv hg]; exact h6 j a b⟩
    have e := Array.getElem?_eq_getElem h3
    rw [← hg] at e
    exact (Array.getElem?_eq_some_iff.1 e).1
  lt := fun ⟨g, cap, h1, h2, h3, _⟩ k hk => by rw [h2] at hk; rw [List.mem_singleton.1 hk]; exact h3
theorem MW.R {w : World} {F : List Nat} {v : Value} {xs : List Int} : MW w F v xs → (Kd.int .u8).R w F v xs :=
  fun ⟨g, cap, h1, h2, h3, h4, h5, h6⟩ => ⟨some ⟨g, 0, none⟩, cap, [g], [], xs.map (Value.int .u8), h1, h4, by simpa using h2, fun k hk => by rw [List.mem_singleton.1 hk]; exact h3, els_int (w := w) (k := .u8) xs, fun j u hu => ⟨_, rfl, by simp, by rw [add_mk, Nat.zero_add]; exact h5 j u hu⟩⟩
theorem Hold.rowZ {w0 w : World} {F0 : List Nat} {Γ : List Rs} {v : Value} {xs : List Int} (H : Hold w0 F0 w Γ) (i : Nat) (hi : Γ[i]? = some (rZ v xs)) : ∃ F, (Kd.int .u8).R w F v xs := let ⟨F, h⟩ := H.res i hi; ⟨F, MW.R h⟩
section
variable {P : Program} {w : World}
theorem run_apz {t tx ty e : TypeId} {z : Value} {by_ : Nat} (ht : P.underlying t = some (.slice e)) (hi : TI P e z 1 by_) (hz : z.cells.size = 1) {F : List Nat} {v : Value} {xs : List Int} (hM : MW w F v xs) {x : Value} {ys : List Int} (hs : Src P 1 tx x ys.length (ys.map (Value.int .u8)) w)
    (hb : (xs.length + ys.length) * by_ ≤ 140737488355328 ∧ xs.length + ys.length ≤ 140737488355328) :
    ∃ v' w' F', (Builtin.append_ #[t, tx] ty #[v, x]).run P w = .ok v' w' ∧ MW w' F' v' (xs ++ ys) ∧ Turn w w' F F' := by
  obtain ⟨g, cap, rfl, rfl, h3, h4, h5, h6⟩ := hM
  obtain ⟨i0, hi0, hz0, hsz, hby⟩ := hi.size
  have hs' : Src P i0.size tx x ys.length (ys.map (Value.int .u8)) w := by rw [hsz]; exact hs
  by_cases hroom : xs.length + ys.length ≤ cap
  · have hc : ∀ j, j < (ys.map (Value.int .u8)).length → (w.cell? ⟨g, 0 + xs.length * i0.size + j, none⟩).isSome = true := fun j hj => by rw [hsz]; simp at hj; simpa using (h6 (xs.length + j) (by omega) (by omega)).1
    have hf : ∀ j, j < (ys.map (Value.int .u8)).length → w.frozen? ⟨g, 0 + xs.length * i0.size + j, none⟩ = false := fun j hj => by rw [hsz]; simp at hj; simpa using (h6 (xs.length + j) (by omega) (by omega)).2
    have hr := run_append_room_src (P := P) w t tx ty e i0 ht hi0 g 0 xs.length cap x ys.length (ys.map (Value.int .u8)) hs' hroom hc hf
    rw [hsz, Nat.mul_one, Nat.zero_add] at hr hc
    refine ⟨_, _, [g], hr, ⟨g, cap, by simp, rfl, by simpa using h3, by simpa using hroom, fun j u hu => ?_, fun j h1 h2 => ?_⟩, by simp, fun k hk => .inl hk, ⟨World.os_setCells _ _ _ _, ?_, World.output_setCells _ _ _ _, by simp, fun k hk hn => World.heap_setCells_other w g _ _ hk (fun e => hn (by simp [e]))⟩⟩
    · by_cases hj : j < xs.length
      · rw [World.cell?_setCells_out g _ _ _ _ (fun _ _ => .inl hj)]
        refine h5 j u ?_
        rw [List.map_append, List.getElem?_append_left (by simpa using hj)] at hu
        exact hu
      · rw [List.map_append, List.getElem?_append_right (by simp; omega)] at hu
        simp only [List.length_map] at hu
        obtain ⟨h7, h8⟩ := List.getElem?_eq_some_iff.1 hu
        have h9 := World.cell?_setCells_in g (ys.map (Value.int .u8)) xs.length w hc (j - xs.length) h7
        rw [show xs.length + (j - xs.length) = j by omega, h8] at h9
        exact h9
    · rw [List.length_append] at h1
      rw [World.frozen?_setCells, World.cell?_setCells_out g _ _ _ _ (fun _ _ => .inr (by simpa using h1))]
      exact h6 j (by omega) h2
    · exact tapeCells _ _ _ _
  · have hold := run_firstCells_some (P := P) w.drew 1 xs.length ⟨g, 0, none⟩ xs.length cap (xs.map (Value.int .u8)) (by simp) (fun j u hu => by rw [add_mk, Nat.zero_add]; simpa using h5 j u hu)
    have hr := run_append_grow_src (P := P) w t tx ty e i0 z ht hi0 hz0 (some ⟨g, 0, none⟩) xs.length cap (xs.map (Value.int .u8)) (by rw [hsz]; exact hold) x ys.length (ys.map (Value.int .u8)) hs' (by omega) (by omega) (by rw [hby]; exact growslice_fits (by omega) hb.1)
    have hge := grownCap_ge w (xs.length + ys.length) cap e
    generalize grownCap w (xs.length + ys.length) cap e = C at hr hge
    have hh := heap_alloc_new w.drew (.cells ((xs.map (Value.int .u8) ++ ys.map (Value.int .u8)).toArray ++ Builtin.zeroCells z.cells (C - (xs.length + ys.length))) e)
    have hsize : ((xs.map (Value.int .u8) ++ ys.map (Value.int .u8)).toArray ++ Builtin.zeroCells z.cells (C - (xs.length + ys.length))).size = C := by
      simp only [Array.size_append, List.size_toArray, size_zeroCells, hz, List.length_append, List.length_map]; omega
    refine ⟨_, _, [w.heap.size], hr, ⟨w.heap.size, C, by simp, rfl, by simp, by simpa using hge, fun j u hu => ?_, fun j h1 h2 => ⟨?_, ?_⟩⟩, by simp, fun k hk => .inr (by rw [List.mem_singleton.1 hk]; exact Nat.le_refl _), ⟨rfl, rfl, rfl, by simp, fun k hk _ => Go.RowKit.Below.heap_alloc w.drew _ _ hk⟩⟩
    · have hh' : (w.drew.alloc (.cells ((xs.map (Value.int .u8) ++ ys.map (Value.int .u8)).toArray ++ Builtin.zeroCells z.cells (C - (xs.length + ys.length))) e)).heap[w.heap.size]? = _ := hh
      simp only [World.cell?, hh']
      have hl := (List.getElem?_eq_some_iff.1 hu).1
      rw [← List.map_append]
      simp only [Option.isSome_none, Bool.false_eq_true, if_false]
      rw [Array.getElem?_append_left (by simpa using hl)]
      simpa using hu
    · have hh' : (w.drew.alloc (.cells ((xs.map (Value.int .u8) ++ ys.map (Value.int .u8)).toArray ++ Builtin.zeroCells z.cells (C - (xs.length + ys.length))) e)).heap[w.heap.size]? = _ := hh
      simp only [World.cell?, hh', Option.isSome_none, Bool.false_eq_true, if_false]
      rw [Array.getElem?_eq_getElem (by rw [hsize]; exact h2)]
      rfl
    · have hh' : (w.drew.alloc (.cells ((xs.map (Value.int .u8) ++ ys.map (Value.int .u8)).toArray ++ Builtin.zeroCells z.cells (C - (xs.length + ys.length))) e)).heap[w.heap.size]? = _ := hh
      simp only [World.frozen?, hh']
      exact (Bool.and_eq_false_iff.2 (.inr (decide_eq_false (Nat.not_lt_zero _))))
variable {ρ : Fr} {d : Option Nat} {ty : TypeId} {pos : String} {af : Array Edge}
theorem apzs {t tx e : TypeId} {z : Value} {by_ : Nat} {a x : Operand} {F : List Nat} {v : Value} {xs : List Int} {s : ByteArray} (ht : P.underlying t = some (.slice e)) (hk : P.underlying tx = some .string) (hi : TI P e z 1 by_) (hz : z.cells.size = 1) (hs : ev ρ a = v) (hx : ev ρ x = .string s) (hM : MW w F v xs) (hb : (xs.length + s.size) * by_ ≤ 140737488355328 ∧ xs.length + s.size ≤ 140737488355328) :
    Ex P ρ ⟨d, .call ⟨.builtin .append, #[a, x], #[t, tx]⟩, ty, pos, af, none⟩ w (fun v' w' => ∃ F', MW w' F' v' (xs ++ nums8 s) ∧ Turn w w' F F') := by
  have hl : (nums8 s).length = s.size := nums8_len s
  have hbc : byteCells s = (nums8 s).map (Value.int .u8) := by simp [byteCells, nums8]
  obtain ⟨v', w', F', hr, hA⟩ := run_apz (P := P) (ty := ty) (ys := nums8 s) ht hi hz hM (by rw [hl, ← hbc]; exact Src.ofString w hk s) (by rw [hl]; exact hb)
  exact ⟨rfl, v', w', by simp [execOp, resolve, invoke, builtin, hs, hx, hr], F', hA⟩
theorem apzb {t e T : TypeId} {z : Value} {by_ : Nat} {a x : Operand} {F : List Nat} {v : Value} {xs : List Int} {g c : Nat} {b : Int} (ht : P.underlying t = some (.slice e)) (hi : TI P e z 1 by_) (hz : z.cells.size = 1) (hs : ev ρ a = v) (hx : ev ρ x = .slice (some ⟨g, 0, none⟩) 1 c) (hM : MW w F v xs) (hB : B w g T [.int .u8 b]) (hb : (xs.length + 1) * by_ ≤ 140737488355328 ∧ xs.length + 1 ≤ 140737488355328) :
    Ex P ρ ⟨d, .call ⟨.builtin .append, #[a, x], #[t, t]⟩, ty, pos, af, none⟩ w (fun v' w' => ∃ F', MW w' F' v' (xs ++ [b]) ∧ Turn w w' F F') := by
  obtain ⟨v', w', F', hr, hA⟩ := run_apz (P := P) (ty := ty) (ys := [b]) (tx := t) ht hi hz hM (Src.ofSlice w ht ⟨g, 0, none⟩ 1 c _ (by simp) (fun j u hu => by rw [add_mk, hB.cell, Nat.zero_add]; exact hu) (fun u hu => by simp at hu; subst hu; rfl)) hb
  exact ⟨rfl, v', w', by simp [execOp, resolve, invoke, builtin, hs, hx, hr], F', hA⟩
/-- '[]byte(s)': a row that may be appended to. -/
theorem cvsz {s t e : TypeId} {x : Operand} {a : ByteArray} (hs : P.underlying s = some .string) (ht : P.underlying t = some (.slice e)) (he : P.underlying e = some (.int .u8)) (hx : ev ρ x = .string a) :
    Ex P ρ ⟨d, .convert s t x, ty, pos, af, none⟩ w (fun v w' => ∃ g, g = w.heap.size ∧ MW w' [g] v (nums8 a) ∧ Ch [] w w') := by
  have hr := run_bytes_of_string (P := P) w s t e a hs ht he
  obtain ⟨cap, hcap⟩ : ∃ cap, grownCap w a.size 0 e = cap := ⟨_, rfl⟩
  have hle : a.size ≤ cap := hcap ▸ grownCap_ge w a.size 0 e
  rw [hcap] at hr
  have hsz : (w.drew.alloc (.cells (bytesRow a cap) e ((bytesRow a cap).size, (bytesRow a cap).size + 1))).heap.size = w.heap.size + 1 := World.size_alloc _ _
  have hh : (w.drew.alloc (.cells (bytesRow a cap) e ((bytesRow a cap).size, (bytesRow a cap).size + 1))).heap[w.heap.size]? = some (.cells (bytesRow a cap) e ((bytesRow a cap).size, (bytesRow a cap).size + 1)) := heap_alloc_new w.drew _
  have hch : Ch [] w (w.drew.alloc (.cells (bytesRow a cap) e ((bytesRow a cap).size, (bytesRow a cap).size + 1))) := (ch_drew w (w.drawn + 1)).t (ch_alloc w.drew _)
  have hbs : (bytesRow a cap).size = cap := by simp [bytesRow]; have : a.data.size = a.size := rfl; omega
  generalize w.drew.alloc (.cells (bytesRow a cap) e ((bytesRow a cap).size, (bytesRow a cap).size + 1)) = W at hr hsz hh hch
  rw [hbs] at hh
  refine ⟨rfl, .slice (some ⟨w.heap.size, 0, none⟩) a.size cap, W, (by simp only [execOp, hx, Sem.run_bind, hr, Result.andThen_ok, Sem.run_pure]), w.heap.size, rfl, ⟨w.heap.size, cap, by rw [nums8_len], rfl, by omega, by rw [nums8_len]; exact hle, fun j u hu => ?_, fun j h1 h2 => ⟨?_, ?_⟩⟩, hch⟩
  · simp only [World.cell?, hh]
    have hj : j < a.size := by
      have := (List.getElem?_eq_some_iff.1 hu).1
      simpa [nums8_len] using this
    rw [← hu]
    have hj2 : j < a.data.size := hj
    have hj' : j < (a.data.map (fun b => Value.int .u8 (b.toNat : Int))).size := by simpa using hj2
    simp only [bytesRow]
    rw [Array.getElem?_append_left hj']
    simp [nums8]
    rfl
  · simp only [World.cell?, hh, Option.isSome_none, Bool.false_eq_true, if_false]
    rw [Array.getElem?_eq_getElem (by rw [hbs]; exact h2)]
    rfl
  · simp only [World.frozen?, hh]
    simp; omega
theorem Hold.newZ {w0 w w' : World} {F0 : List Nat} {Γ : List Rs} {v : Value} {xs : List Int} {g : Nat} (H : Hold w0 F0 w Γ) (e : g = w.heap.size) (h : MW w' [g] v xs) (c : Ch [] w w') : Hold w0 F0 w' (Γ ++ [rZ v xs]) :=
  H.new (r := rZ v xs) h (by simp) (fun k hk => by rw [List.mem_singleton.1 hk, e]; exact Nat.le_refl _) c
end
end Go.Eng
