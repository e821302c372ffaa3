/-
  ARGUMENTS, READ AS DATA, ARE ROWS THAT ARE READ (XRep's words): opened by their kind. OF MY OWN: over any program. No condition.
-/
import Derived.Test.YtgpcanjmgdmdhaaDoorApp
import Derived.ProofKit
import Derived.SizedLaws
import Derived.Deep.Slices
namespace Go.Eng
open Go.ChangeShapes Go.WideShapes Go.ChangeAt Go.RowKit
set_option linter.unusedVariables false
set_option linter.unusedSimpArgs false

section
variable {H : Type} {enc : TypeId × Value → H} {P : Program} {w : World} {spare : Nat → Bool} {held : Bool}
/-- Whatever reads at type t is of kind dk, and ok. -/
def Opens (enc : TypeId × Value → H) (P : Program) (w : World) (spare : Nat → Bool) (held : Bool) {α : Type} (dk : Kd α) (ok : α → Prop) (t : TypeId) : Prop :=
  ∀ fuel cs x, DataW.trod enc P w 0 spare held fuel t cs = some x → ∃ F y, dk.K w F y cs ∧ ok y
theorem opens_int {t : TypeId} {k : IntKind} (ht : P.underlying t = some (.int k)) : Opens enc P w spare held (Kd.int k) (fun n => (Lit.int k n).wf = true) t := by
  intro fuel cs x h
  obtain ⟨n, rfl, _, hw⟩ := DataW.trod_int ht h
  exact ⟨[], n, ⟨rfl, rfl⟩, hw⟩
theorem opens_bool {t : TypeId} (ht : P.underlying t = some .bool) : Opens enc P w spare held Kd.bool (fun _ => True) t := by
  intro fuel cs x h
  obtain ⟨b, rfl, _⟩ := DataW.trod_bool ht h
  exact ⟨[], b, ⟨rfl, rfl⟩, trivial⟩
theorem opens_str {t : TypeId} (ht : P.underlying t = some .string) : Opens enc P w spare held Kd.str (fun s => s.size ≤ maxLen) t := by
  intro fuel cs x h
  obtain ⟨s, rfl, _, hm⟩ := DataW.trod_string ht h
  exact ⟨[], s, ⟨rfl, rfl⟩, hm⟩
theorem cells?_row {a : Addr} {m : Nat} {cs : List Value} (h : w.cells? 0 a m = some cs) : cs.length = m ∧ ∀ j u, cs[j]? = some u → w.cell? (a.add j) = some u := by
  obtain ⟨_, h1, h2⟩ := World.cells?_some h
  refine ⟨h1, fun j u hu => ?_⟩
  rw [h2 j (by rw [← h1]; exact (List.getElem?_eq_some_iff.1 hu).1)]
  exact hu
theorem opens_slice {α : Type} {dk : Kd α} {ok : α → Prop} {t e : TypeId} {e0 : TypeId} (ht : P.underlying t = some (.slice e)) (hc : P.cellsOf e = dk.sz) (he : Opens enc P w spare held dk ok e) : Opens enc P w spare held (Kd.sl e0 dk) (fun xs => xs.length ≤ 9223372036854775807 ∧ ∀ x, x ∈ xs → ok x) t := by
  intro fuel cs x h
  rcases Go.Deep.open_slice ht h with ⟨rfl, rfl⟩ | ⟨a, len, cap, m, n, D, Pl, rfl, _, hl, hm, hmm, rfl, hel⟩
  · exact ⟨[], [], ⟨_, rfl, Kd.nil_R dk w⟩, by simp⟩
  · have hle : len ≤ m := by rw [hmm]; split <;> omega
    have key : ∀ k, k ≤ len → ∃ Fs ys cs', ys.length = k ∧ Els (dk.K w) Fs ys cs' ∧ (∀ y, y ∈ ys → ok y) ∧ ∀ j u, cs'[j]? = some u → w.cell? (a.add j) = some u := by
      intro k
      induction k with
      | zero => exact fun _ => ⟨[], [], [], rfl, ⟨rfl, rfl⟩, by simp, by simp⟩
      | succ k ih =>
        intro hk
        obtain ⟨Fs, ys, cs', hy, hE, hok, hcell⟩ := ih (by omega)
        obtain ⟨c1, hc1, ht1⟩ := hel k (by omega)
        obtain ⟨hl1, hr1⟩ := cells?_row hc1
        obtain ⟨F1, y1, hK1, hok1⟩ := he _ _ _ ht1
        have hlen := hE.length (sz := dk.sz) (fun _ _ _ h => dk.len h)
        refine ⟨Fs ++ F1, ys ++ [y1], cs' ++ c1, by simp [hy], hE.snoc hK1, ?_, ?_⟩
        · intro y hy'
          rcases List.mem_append.1 hy' with h | h
          · exact hok y h
          · rw [List.mem_singleton.1 h]; exact hok1
        · intro j u hu
          by_cases hj : j < cs'.length
          · rw [List.getElem?_append_left hj] at hu
            exact hcell j u hu
          · rw [List.getElem?_append_right (by omega)] at hu
            have := hr1 _ u hu
            rw [add_add, hc, ← hy, ← hlen] at this
            rwa [Nat.add_sub_cancel' (by omega)] at this
    obtain ⟨Fs, ys, cs', hy, hE, hok, hcell⟩ := key len (Nat.le_refl _)
    refine ⟨(if ys = [] then [] else [a.block]) ++ Fs, ys, ⟨_, rfl, some a, cap, _, Fs, cs', by rw [hy], by omega, rfl, ?_, hE, fun j u hu => ⟨a, rfl, ?_, hcell j u hu⟩⟩, by rw [hy]; simp only [maxLen] at hm; omega, hok⟩
    · intro k hk
      split at hk
      · cases hk
      · rename_i hne
        obtain rfl := List.mem_singleton.1 hk
        have hlen := hE.length (sz := dk.sz) (fun _ _ _ h => dk.len h)
        have hpos : 0 < cs'.length := by
          rw [hlen]
          exact Nat.mul_pos (List.length_pos_iff.2 hne) dk.pos
        have := World.block_lt_of_cell? w _ (hcell 0 _ (List.getElem?_eq_getElem hpos))
        simpa [Addr.add] using this
    · have hne : ys ≠ [] := by
        rintro rfl
        obtain ⟨_, rfl⟩ := hE
        simp at hu
      rw [if_neg hne]; simp
/-- The fields from one on. -/
def OpensF (enc : TypeId × Value → H) (P : Program) (w : World) (spare : Nat → Bool) (held : Bool) {α : Type} (dk : Kd α) (ok : α → Prop) (off : Nat) (fs : List Field) : Prop :=
  ∀ (fuel : Nat) (cs : List Value) (x : List (DataW H × List MemPlace)), cs.length = off + dk.sz → (fs.mapM fun f => DataW.trod enc P w 0 spare held fuel f.type ((cs.drop f.offset).take (P.cellsOf f.type))) = some x → ∃ F y, dk.K w F y (cs.drop off) ∧ ok y
theorem opensF_one {α : Type} {dk : Kd α} {ok : α → Prop} {off : Nat} {f : Field} (ho : f.offset = off) (hc : P.cellsOf f.type = dk.sz) (h : Opens enc P w spare held dk ok f.type) : OpensF enc P w spare held dk ok off [f] := by
  intro fuel cs x hl hx
  cases hq : DataW.trod enc P w 0 spare held fuel f.type ((cs.drop f.offset).take (P.cellsOf f.type)) with
  | none => simp [hq] at hx
  | some y =>
    have := h _ _ _ hq
    rw [ho, hc, List.take_of_length_le (by simp; omega)] at this
    exact this
theorem opensF_cons {α β : Type} {dk : Kd α} {dl : Kd β} {ok : α → Prop} {ok' : β → Prop} {off : Nat} {f : Field} {fs : List Field} (ho : f.offset = off) (hc : P.cellsOf f.type = dk.sz) (h : Opens enc P w spare held dk ok f.type) (h' : OpensF enc P w spare held dl ok' (off + dk.sz) fs) :
    OpensF enc P w spare held (dk.prod dl) (fun x => ok x.1 ∧ ok' x.2) off (f :: fs) := by
  intro fuel cs x hl hx
  have hsz : (dk.prod dl).sz = dk.sz + dl.sz := rfl
  cases hq : DataW.trod enc P w 0 spare held fuel f.type ((cs.drop f.offset).take (P.cellsOf f.type)) with
  | none => simp [hq] at hx
  | some y =>
    cases hr : (fs.mapM fun f => DataW.trod enc P w 0 spare held fuel f.type ((cs.drop f.offset).take (P.cellsOf f.type))) with
    | none => simp [hq, hr] at hx
    | some ys =>
      obtain ⟨F1, y1, hK1, hok1⟩ := h _ _ _ hq
      obtain ⟨F2, y2, hK2, hok2⟩ := h' fuel cs ys (by omega) hr
      rw [ho, hc] at hK1
      exact ⟨F1 ++ F2, (y1, y2), ⟨F1, F2, _, _, rfl, by rw [← List.drop_drop, List.take_append_drop], hK1, hK2⟩, hok1, hok2⟩
theorem opens_struct {α : Type} {dk : Kd α} {ok : α → Prop} {t : TypeId} {fs : Array Field} (ht : P.underlying t = some (.struct fs)) (hc : P.cellsOf t = dk.sz) (h : OpensF enc P w spare held dk ok 0 fs.toList) : Opens enc P w spare held dk ok t := by
  intro fuel cs x hx
  cases fuel with
  | zero => cases hx
  | succ fuel =>
    unfold DataW.trod at hx
    rw [ht] at hx
    simp only at hx
    split at hx
    · rename_i hl
      rw [Option.map_eq_some_iff] at hx
      obtain ⟨xs, hxs, _⟩ := hx
      have := h fuel cs xs (by omega) hxs
      simpa using this
    · cases hx

/-- An argument that is a slice; a struct; a number; a text; a Bool. -/
theorem open_sl {α : Type} {dk : Kd α} {ok : α → Prop} {t e : TypeId} {v : Value} {d : DataW H} {ps : List MemPlace} {r : Reach} {b0 : Nat} (ht : P.underlying t = some (.slice e)) (hc : P.cellsOf e = dk.sz) (he : Opens enc P w spare held dk ok e)
    (hv : Value.okWide P w r b0 t v) (h : DataW.Trod enc P w 0 spare held t v d ps) : ∃ F xs, dk.R w F v xs ∧ xs.length ≤ 9223372036854775807 ∧ ∀ x, x ∈ xs → ok x := by
  obtain ⟨a, len, cap, rfl⟩ := okWide_slice ht hv
  obtain ⟨fuel, hf⟩ := h
  obtain ⟨F, xs, ⟨v', e', hR⟩, hok⟩ := opens_slice (e0 := 0) ht hc he fuel _ _ hf
  simp only [Value.cells, List.cons.injEq, and_true] at e'
  exact ⟨F, xs, e' ▸ hR, hok⟩
theorem open_st {α : Type} {dk : Kd α} {ok : α → Prop} {t : TypeId} {fs : Array Field} {v : Value} {d : DataW H} {ps : List MemPlace} {r : Reach} {b0 : Nat} (ht : P.underlying t = some (.struct fs)) (he : Opens enc P w spare held dk ok t)
    (hv : Value.okWide P w r b0 t v) (h : DataW.Trod enc P w 0 spare held t v d ps) : ∃ F y cs, v = .agg (List.toArray cs) ∧ dk.K w F y cs ∧ ok y := by
  obtain ⟨cs, rfl, _⟩ := okWide_struct ht hv
  obtain ⟨fuel, hf⟩ := h
  obtain ⟨F, y, hK, hok⟩ := he fuel _ _ hf
  exact ⟨F, y, cs.toList, by simp, hK, hok⟩
theorem open_i {t : TypeId} {k : IntKind} {v : Value} {d : DataW H} {ps : List MemPlace} {r : Reach} {b0 : Nat} (ht : P.underlying t = some (.int k)) (hv : Value.okWide P w r b0 t v) (h : DataW.Trod enc P w 0 spare held t v d ps) : ∃ n, v = .int k n ∧ (Lit.int k n).wf = true := by
  obtain ⟨n, rfl, _, _, hw⟩ := open_int ht hv h
  exact ⟨n, rfl, hw⟩
theorem open_s {t : TypeId} {v : Value} {d : DataW H} {ps : List MemPlace} {r : Reach} {b0 : Nat} (ht : P.underlying t = some .string) (hv : Value.okWide P w r b0 t v) (h : DataW.Trod enc P w 0 spare held t v d ps) : ∃ s, v = .string s := okWide_string ht hv
end
end Go.Eng
