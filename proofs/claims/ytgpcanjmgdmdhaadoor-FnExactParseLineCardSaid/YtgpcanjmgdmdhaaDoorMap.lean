/-
  MAPS FROM NUMBERS TO NUMBERS, OF MY OWN: a map's block by what it answers; made, looked up, written, cleared. Over any program. No condition.
-/
import Derived.Test.YtgpcanjmgdmdhaaDoorOth
import Derived.MapKept
namespace Go.Eng
set_option linter.unusedVariables false
set_option linter.unusedSimpArgs false
/-- The answer of a list of pairs: the first that has the key. -/
def lookL : List (Int × Int) → Int → Option Int
  | [], _ => none
  | (a, v) :: m, k => if k = a then some v else lookL m k
def updL : List (Int × Int) → Int → Int → List (Int × Int)
  | [], k, v => [(k, v)]
  | (a, u) :: m, k, v => if k = a then (k, v) :: m else (a, u) :: updL m k v
def fset (f : Int → Option Int) (k v : Int) : Int → Option Int := fun x => if x = k then some v else f x
theorem lookL_upd (m : List (Int × Int)) (k v : Int) : lookL (updL m k v) = fset (lookL m) k v := by
  funext x
  induction m with
  | nil => simp [updL, lookL, fset]
  | cons p m ih =>
    obtain ⟨a, u⟩ := p
    simp only [fset] at ih
    by_cases h : k = a
    · subst h; simp only [updL, if_true, lookL, fset]
      by_cases hx : x = k <;> simp [hx]
    · simp only [updL, h, if_false, lookL, fset, ih]
      by_cases hx : x = k
      · subst hx; simp [h]
      · simp [hx]
def encM (es : List MapEntry) (m : List (Int × Int)) : Prop := es.map (fun e => (e.key, e.val)) = m.map (fun p => (Value.int .i64 p.1, Value.int .i64 p.2))
def MpI (w : World) (g : Nat) (f : Int → Option Int) : Prop := ∃ es clock m, w.heap[g]? = some (.map es clock) ∧ encM es.toList m ∧ lookL m = f
theorem MpI.t {w w' : World} {g : Nat} {f : Int → Option Int} (c : Ch [] w w') (h : MpI w g f) : MpI w' g f := by
  obtain ⟨es, clock, m, hb, he, hf⟩ := h
  exact ⟨es, clock, m, (c.blk g (Array.getElem?_eq_some_iff.1 hb).1 (by simp)).trans hb, he, hf⟩
def rM (g : Nat) (f : Int → Option Int) : Rs where
  P w F := F = [g] ∧ MpI w g f
  mv := fun hm h => ⟨h.1, by obtain ⟨es, c, m, hb, he⟩ := h.2; exact ⟨es, c, m, (hm g (by rw [h.1]; simp)).trans hb, he⟩⟩
  lt := fun h k hk => by
    rw [h.1] at hk; rw [List.mem_singleton.1 hk]
    obtain ⟨es, c, m, hb, he⟩ := h.2
    exact (Array.getElem?_eq_some_iff.1 hb).1
/-- Sought among the entries. -/
theorem findNow_enc : ∀ (es : List MapEntry) (m : List (Int × Int)) (k : Int) (i : Nat), encM es m → (lookL m k = none ∧ Instr.findNow (.int .i64) (.int .i64 k) es i = some none ∧ (∀ v, updL m k v = m ++ [(k, v)])) ∨
    ∃ j v, lookL m k = some v ∧ Instr.findNow (.int .i64) (.int .i64 k) es i = some (some (i + j, .int .i64 v)) ∧ (∃ e, es[j]? = some e ∧ e.key = .int .i64 k) ∧ ∀ v, updL m k v = m.set j (k, v)
  | [], [], k, i, _ => .inl ⟨rfl, rfl, fun _ => rfl⟩
  | [], _ :: _, _, _, h => by simp [encM] at h
  | _ :: _, [], _, _, h => by simp [encM] at h
  | e :: es, (a, v) :: m, k, i, h => by
    simp only [encM, List.map_cons, List.cons.injEq, Prod.mk.injEq] at h
    obtain ⟨⟨hk, hv⟩, ht⟩ := h
    by_cases hka : k = a
    · subst hka
      exact .inr ⟨0, v, by simp [lookL], by simp [Instr.findNow, hk, hv, Instr.sameNow], ⟨e, rfl, hk⟩, fun v => by simp [updL]⟩
    · have hs : Instr.sameNow (.int .i64) (.int .i64 k) e.key = some false := by rw [hk]; simp [Instr.sameNow, hka]
      rcases findNow_enc es m k (i + 1) ht with ⟨h1, h2, h3⟩ | ⟨j, u, h1, h2, h3, h4⟩
      · exact .inl ⟨by simp [lookL, hka, h1], by simp [Instr.findNow, hs, h2], fun v => by simp [updL, hka, h3]⟩
      · refine .inr ⟨j + 1, u, by simp [lookL, hka, h1], by simp [Instr.findNow, hs, h2]; omega, by simpa using h3, fun v => by simp [updL, hka, h4]⟩
section
variable {P : Program} {n : Nat} {k : List It} {Qf : Exit → Act → World → Prop} {ρ : Fr} {ds : List Deferred} {w : World} {ops : Array Oper} {rest : List Oper} {d : Option Nat} {ty : TypeId} {pos : String} {af : Array Edge}
theorem Rn.cast {o : Oper} {v v' : Value} (h : Rn P ρ o w v) (e : v = v') : Rn P ρ o w v' := e ▸ h
def NewM (w : World) (v : Value) (w' : World) : Prop := ∃ g, g = w.heap.size ∧ v = .map (some g) ∧ MpI w' g (fun _ => none) ∧ Ch [] w w'
theorem xmm {t : TypeId} : Ex P ρ ⟨d, .makeMap t none, ty, pos, af, none⟩ w (NewM w) := by
  refine ⟨rfl, .map (some w.heap.size), w.alloc (.map #[] 0), ?_, _, rfl, rfl, ⟨#[], 0, [], heap_alloc_new _ _, rfl, rfl⟩, ch_alloc _ _⟩
  simp [execOp, Instr.makeMap]
theorem Hold.newM {w0 w w' : World} {F0 : List Nat} {Γ : List Rs} {g : Nat} {f : Int → Option Int} (H : Hold w0 F0 w Γ) (e : g = w.heap.size) (h : MpI w' g f) (c : Ch [] w w') : Hold w0 F0 w' (Γ ++ [rM g f]) :=
  H.new (r := rM g f) ⟨rfl, h⟩ (by simp) (fun k hk => by rw [List.mem_singleton.1 hk, e]; exact Nat.le_refl _) c
theorem Hold.mp {w0 w : World} {F0 : List Nat} {Γ : List Rs} {g : Nat} {f : Int → Option Int} (H : Hold w0 F0 w Γ) (i : Nat) (hi : Γ[i]? = some (rM g f)) : MpI w g f := let ⟨_, h⟩ := H.res i hi; h.2
theorem Hold.setM {w0 w w' : World} {F0 : List Nat} {Γ Δ : List Rs} {g : Nat} {f f' : Int → Option Int} (H : Hold w0 F0 w Γ) (i : Nat) (hi : Γ[i]? = some (rM g f)) (h : MpI w' g f') (c : Ch [g] w w') (e : Γ.set i (rM g f') = Δ) : Hold w0 F0 w' Δ := by
  obtain ⟨F, hp, n, s, K⟩ := H.pick i hi
  obtain ⟨rfl, _⟩ := hp
  exact K w' (rM g f') [g] Δ ⟨rfl, h⟩ (Turn.own (by simp) (fun k hk => hk) c) e
theorem lkp {t kt et : TypeId} {x y : Operand} {g : Nat} {f : Int → Option Int} {a : Int} {by_ : Nat} (ht : P.underlying t = some (.map kt et)) (hk : P.underlying kt = some (.int .i64)) (hi : TI P et (.int .i64 0) 1 by_) (hx : ev ρ x = .map (some g)) (hy : ev ρ y = .int .i64 a) (hM : MpI w g f) :
    Rn P ρ ⟨d, .lookup t x y true, ty, pos, af, none⟩ w (.tuple #[.int .i64 ((f a).getD 0), .bool (f a).isSome]) := by
  refine ⟨rfl, fun w' c => ?_⟩
  obtain ⟨es, clock, m, hb, he, rfl⟩ := hM.t c
  obtain ⟨i0, hi0, hz, _, _⟩ := info_parts hi
  have hck : (Instr.checkKey es.isEmpty 10000 kt (.int .i64 a)).run P w' = .ok () w' := MapKept.run_checkKey (k := .int .i64 a) hk (by simp [MapKept.IsKey]) _ 9999
  rcases findNow_enc es.toList m a 0 he with ⟨h1, h2, _⟩ | ⟨j, v, h1, h2, _⟩
  · simp [execOp, Instr.lookup, hx, hy, run_underlying ht, MapKept.run_getObj_map hb, hck, MapKept.run_findKey hk h2, h1, zeroValue, typeInfo, hi0, hz, run_program]
  · simp [execOp, Instr.lookup, hx, hy, run_underlying ht, MapKept.run_getObj_map hb, hck, MapKept.run_findKey hk h2, h1]
theorem ch_setObj {w : World} {g : Nat} {o : Obj} : Ch [g] w { w with heap := w.heap.setIfInBounds g o } := by
  refine ⟨rfl, rfl, rfl, by simp, fun k hk hn => ?_⟩
  have hne : g ≠ k := fun e => hn (by simp [e])
  simp [Array.getElem?_setIfInBounds, hne]
theorem encM_set {es : Array MapEntry} {m : List (Int × Int)} (h : encM es.toList m) {j : Nat} {e : MapEntry} (hj : es[j]? = some e) {k v : Int} (F : MapEntry → MapEntry) (hF : ∀ e, (F e).key = .int .i64 k ∧ (F e).val = .int .i64 v) : encM (es.modify j F).toList (m.set j (k, v)) := by
  unfold encM at h ⊢
  rw [Array.toList_modify]
  apply List.ext_getElem?
  intro i
  have hi := congrArg (fun l => l[i]?) h
  simp only [List.getElem?_map] at hi
  simp only [List.getElem?_map, List.getElem?_modify, List.getElem?_set]
  by_cases hij : j = i
  · subst hij
    have hlt : j < es.size := (Array.getElem?_eq_some_iff.1 hj).1
    have hlm : j < m.length := by have := congrArg List.length h; simp at this; omega
    simp [hj, hlt, hlm, hF]
  · simp only [hij, if_false, id_map']
    simpa using hi
theorem xmu {t kt et : TypeId} {x y z : Operand} {g : Nat} {f : Int → Option Int} {a v : Int} (ht : P.underlying t = some (.map kt et)) (hk : P.underlying kt = some (.int .i64)) (hx : ev ρ x = .map (some g)) (hy : ev ρ y = .int .i64 a) (hz : ev ρ z = .int .i64 v) (hM : MpI w g f) :
    Ex0 P ρ ⟨d, .mapUpdate t x y z, ty, pos, af, none⟩ w (fun w' => MpI w' g (fset f a v) ∧ Ch [g] w w') := by
  obtain ⟨es, clock, m, hb, he, rfl⟩ := hM
  have hck : (Instr.checkKey false 10000 kt (.int .i64 a)).run P w = .ok () w := MapKept.run_checkKey (k := .int .i64 a) hk (by simp [MapKept.IsKey]) _ 9999
  have hlt : g < w.heap.size := (Array.getElem?_eq_some_iff.1 hb).1
  rcases findNow_enc es.toList m a 0 he with ⟨h1, h2, h3⟩ | ⟨j, u, h1, h2, ⟨e, h3, h3k⟩, h4⟩
  · refine ⟨rfl, { w with heap := w.heap.setIfInBounds g (.map (es.push { key := .int .i64 a, val := .int .i64 v, born := clock }) (clock + 1)) }, ?_, ⟨_, _, updL m a v, by simp [hlt]; exact ⟨rfl, rfl⟩, ?_, lookL_upd m a v⟩, ch_setObj⟩
    · simp [execOp, Instr.mapUpdate, hx, hy, hz, run_underlying ht, MapKept.run_getObj_map hb, hck, MapKept.run_findKey hk h2, MapKept.run_setObj_map _ hb]
    · rw [h3]; unfold encM at he ⊢; simp [he]
  · have h3' : es[j]? = some e := by simpa using h3
    have hkt : (Instr.keyThatStays (((es[0 + j]?).map (·.key)).getD (.int .i64 a)) (.int .i64 a)).run P w = .ok (.int .i64 a) w := by
      simp [h3', h3k, Instr.keyThatStays, Instr.sameBits]
    refine ⟨rfl, { w with heap := w.heap.setIfInBounds g (.map (es.modify (0 + j) fun e => { e with key := .int .i64 a, val := .int .i64 v }) clock) }, ?_, ⟨_, _, updL m a v, by simp [hlt]; exact ⟨rfl, rfl⟩, ?_, lookL_upd m a v⟩, ch_setObj⟩
    · simp only [execOp, Instr.mapUpdate, hx, hy, hz, Sem.run_bind, run_underlying ht, Result.andThen_ok, MapKept.run_getObj_map hb, hck, MapKept.run_findKey hk h2, hkt, MapKept.run_setObj_map _ hb]
      simp
    · rw [h4]; exact encM_set he h3' _ (fun e => ⟨rfl, rfl⟩)
theorem xcl {t kt et : TypeId} {x : Operand} {g : Nat} {f : Int → Option Int} (ht : P.underlying t = some (.map kt et)) (hx : ev ρ x = .map (some g)) (hM : MpI w g f) :
    Ex P ρ ⟨d, .call ⟨.builtin .clear, #[x], #[t]⟩, ty, pos, af, none⟩ w (fun v w' => MpI w' g (fun _ => none) ∧ Ch [g] w w') := by
  obtain ⟨es, clock, m, hb, he, rfl⟩ := hM
  have hlt : g < w.heap.size := (Array.getElem?_eq_some_iff.1 hb).1
  refine ⟨rfl, .tuple #[], { w with heap := w.heap.setIfInBounds g (.map #[] clock) }, ?_, ⟨#[], clock, [], by simp [hlt], rfl, rfl⟩, ch_setObj⟩
  simp [execOp, resolve, invoke, builtin, hx, Builtin.clear_, run_underlying ht, MapKept.run_getObj_map hb, MapKept.run_setObj_map _ hb]
theorem MpI.tt {w w' : World} {G : List Nat} {g : Nat} {f : Int → Option Int} (c : Ch G w w') (hg : g ∉ G) (h : MpI w g f) : MpI w' g f := by
  obtain ⟨es, clock, m, hb, he, hf⟩ := h
  exact ⟨es, clock, m, (c.blk g (Array.getElem?_eq_some_iff.1 hb).1 hg).trans hb, he, hf⟩
theorem splice_take {α : Type} {c Y : List α} {o n : Nat} (h : o + Y.length ≤ n) (hc : n ≤ c.length) : (c.take o ++ Y ++ c.drop (o + Y.length)).take n = (c.take n).take o ++ Y ++ (c.take n).drop (o + Y.length) := by
  rw [List.take_append, List.take_of_length_le (by simp; omega), List.take_take, List.drop_take]
  congr 2
  · congr 2; omega
  · simp; omega
/-- 'copy(row[l:h], src)' into a row of one's own. -/
theorem cpw {tt st e e' : TypeId} {z : Value} {by_ : Nat} {x y : Operand} {F G : List Nat} {v sv : Value} {xs ys : List Int} (l h : Nat) (ht : P.underlying tt = some (.slice e')) (hi : TI P e' z 1 by_) (hx : ev ρ x = slv v l h 1) (hy : ev ρ y = sv) (hW : (Kd.int .u8).W e w F v xs) (hl : l ≤ h ∧ h ≤ xs.length ∧ 0 < xs.length) (hR : (Kd.int .u8).R w G sv ys) :
    Ex P ρ ⟨d, .call ⟨.builtin .copy, #[x, y], #[tt, st]⟩, ty, pos, af, none⟩ w (fun r w' => ∃ F', Mut (Kd.int .u8) e w w' F F' v (xs.take l ++ ys.take (h - l) ++ xs.drop (l + (ys.take (h - l)).length))) := by
  have hW0 := hW
  obtain ⟨Fs, cs, ho, rfl, he⟩ := hW
  have hcs := els_int_inv (w := w) he
  obtain ⟨h1, h2⟩ := ho
  rcases h2 with ⟨rfl, hn0⟩ | ⟨g, cap, cur, rfl, hg, hh, hnc, hcm, hcz, htake⟩
  · exact absurd hn0 (by omega)
  have hB : B w g e cur.toList := by simpa [B] using hh
  have hcz' : cur.toList.length = cap := by have := hcz; simp [Kd.int, Kd.one1, Kd.flat] at this; simpa using this
  obtain ⟨w', r1, r2, r3, r4⟩ := run_copy_into (P := P) (ty := ty) (st := st) (dl := h - l) (dc := cap - l) (o := if cap = l then 0 else l) ht hi hB (run_lenR hR) (fun m hm => run_firstR hR m hm) (by rw [hcz']; split <;> omega)
  have hx' : ev ρ x = .slice (some ⟨g, if cap = l then 0 else l, none⟩) (h - l) (cap - l) := by
    rw [hx]; simp only [slv]; by_cases ec : cap = l <;> simp [ec, add_mk]
  have eY : ys.take (min ys.length (h - l)) = ys.take (h - l) := by rw [Nat.min_comm, ← List.take_eq_take_min]
  rw [eY] at r3
  refine ⟨rfl, _, w', run_copyop hx' hy r1, [g], ?_, by simp, fun k hk => .inl (by simp [Value.ownBlock]; exact .inl (by simpa using hk)), r4.mono (fun k hk _ => by simp [Value.ownBlock]; exact .inl (by simpa using hk))⟩
  have hYl : (ys.take (h - l)).length ≤ h - l := by simp; omega
  generalize ys.take (h - l) = Y at *
  have hlen : (xs.take l ++ Y ++ xs.drop (l + Y.length)).length = xs.length := by simp; omega
  have hsp : (splice cur.toList (if cap = l then 0 else l) (byts Y)).take xs.length = byts (xs.take l ++ Y ++ xs.drop (l + Y.length)) := by
    have hcs' : cur.toList.take xs.length = byts xs := by have := htake; simp [Kd.int, Kd.one1, Kd.flat] at this; rw [this, hcs]
    by_cases ec : cap = l
    · have hY : Y = [] := List.eq_nil_of_length_eq_zero (by omega)
      subst hY
      simp [splice, byts] at hcs' ⊢
      rw [hcs']
    · rw [if_neg ec, ← splice_byts, ← hcs']
      have := splice_take (c := cur.toList) (Y := byts Y) (o := l) (n := xs.length) (by simp [byts]; omega) (by omega)
      simpa [splice, List.append_assoc] using this
  refine ⟨[], byts (xs.take l ++ Y ++ xs.drop (l + Y.length)), ?_, by simp [Value.ownBlock], els_int _⟩
  refine ⟨by simp [byts, Kd.int, Kd.one1, Kd.flat], .inr ⟨g, cap, (splice cur.toList (if cap = l then 0 else l) (byts Y)).toArray, by rw [hlen], Nat.zero_le _, r3, by rw [hlen]; exact hnc, hcm, ?_, ?_⟩⟩
  · have : (splice cur.toList (if cap = l then 0 else l) (byts Y)).length = cap := by simp only [splice, byts, List.length_append, List.length_take, List.length_map, List.length_drop, hcz']; split <;> omega
    simpa [Kd.int, Kd.one1, Kd.flat] using this
  · rw [hlen]; simpa [Kd.int, Kd.one1, Kd.flat] using hsp
theorem run_eqIn_sl {t e : TypeId} {A : Option Addr} {l c : Nat} (ht : P.underlying t = some (.slice e)) (m : Nat) (w : World) : (Op.equalIn (m + 1) t (.slice A l c) (.slice none 0 0)).run P w = .ok A.isNone w := by
  cases A <;> simp only [Op.equalIn, Sem.run_bind, run_underlying ht, Result.andThen_ok, Sem.run_pure, Option.isNone]
/-- A slice held against nil. -/
theorem snl {t u e : TypeId} {x : Operand} {A : Option Addr} {l c : Nat} (ht : P.underlying t = some (.slice e)) (hx : ev ρ x = .slice A l c) : Rn P ρ ⟨d, .binOp .eql t x (.const (.slice none 0 0)) u, ty, pos, af, none⟩ w (.bool A.isNone) := by
  refine ⟨rfl, fun w' _ => ?_⟩
  have h1 : (Op.equal t (.slice A l c) (.slice none 0 0)).run P w' = .ok A.isNone w' := run_eqIn_sl ht 9999 w'
  have h2 : (eqGuard .eql t x (.const (.slice none 0 0)) (.slice A l c) (.slice none 0 0)).run P w' = .ok () w' := by simp [eqGuard]
  have h3 : binOp .eql t (.slice A l c) (.slice none 0 0) = (do pure (.bool (← Op.equal t (.slice A l c) (.slice none 0 0)))) := rfl
  simp only [execOp, hx, show ev ρ (.const (.slice none 0 0)) = .slice none 0 0 from rfl, Sem.run_bind, h2, Result.andThen_ok, h3, h1, Sem.run_pure]
end
end Go.Eng
