/-
  ROWS WHOSE ELEMENTS OWN ROWS, OF MY OWN: a part of an element written anew; an element's own row changed behind its back. Over any program. No condition.
-/
import Derived.Test.YtgpcanjmgdmdhaaDoorMem
namespace Go.Eng
set_option linter.unusedVariables false
set_option linter.unusedSimpArgs false

section
variable {P : Program} {n : Nat} {k : List It} {Qf : Exit → Act → World → Prop} {ρ : Fr} {ds : List Deferred} {w : World}
variable {ops : Array Oper} {rest : List Oper} {d : Option Nat} {ty : TypeId} {pos : String} {af : Array Edge}

theorem nodup_mid {α : Type} {a b c : List α} : (a ++ (b ++ c)).Nodup ↔ a.Nodup ∧ b.Nodup ∧ c.Nodup ∧ (∀ x, x ∈ a → x ∉ b) ∧ (∀ x, x ∈ a → x ∉ c) ∧ (∀ x, x ∈ b → x ∉ c) := by
  rw [nodup_app, nodup_app]
  constructor
  · rintro ⟨h1, ⟨h2, h3, h4⟩, h5⟩
    exact ⟨h1, h2, h3, fun x hx hb => h5 x hx (List.mem_append_left _ hb), fun x hx hb => h5 x hx (List.mem_append_right _ hb), h4⟩
  · rintro ⟨h1, h2, h3, h4, h5, h6⟩
    exact ⟨h1, ⟨h2, h3, h6⟩, fun x hx hb => (List.mem_append.1 hb).elim (h4 x hx) (h5 x hx)⟩
theorem cut_in {cur ca ci cb vs : List Value} {m a s o : Nat} (ht : cur.take m = ca ++ (ci ++ cb)) (ha : ca.length = a) (hs : ci.length = s) (ho : o + vs.length ≤ s) (hm : a + s ≤ m) :
    cur.take (a + o) ++ vs ++ cur.drop (a + o + vs.length) = cur.take a ++ splice ci o vs ++ cur.drop (a + s) := by
  have hcur : cur = ca ++ (ci ++ (cb ++ cur.drop m)) := by
    have h := List.take_append_drop m cur
    rw [ht, List.append_assoc, List.append_assoc] at h
    exact h.symm
  generalize cb ++ cur.drop m = tl at hcur
  subst hcur ha hs
  have e1 : (ca ++ (ci ++ tl)).take (ca.length + o) = ca ++ ci.take o := by
    rw [List.take_append, List.take_of_length_le (by omega), show ca.length + o - ca.length = o by omega, List.take_append_of_le_length (by omega)]
  have e2 : (ca ++ (ci ++ tl)).drop (ca.length + o + vs.length) = ci.drop (o + vs.length) ++ tl := by
    rw [List.drop_append, List.drop_eq_nil_of_le (by omega), List.nil_append, show ca.length + o + vs.length - ca.length = o + vs.length by omega, List.drop_append_of_le_length (by omega)]
  have e3 : (ca ++ (ci ++ tl)).take ca.length = ca := by simp
  have e4 : (ca ++ (ci ++ tl)).drop (ca.length + ci.length) = tl := by
    rw [← List.drop_drop]; simp
  rw [e1, e2, e3, e4]
  simp [splice, List.append_assoc]
/-- A part of element j is written anew: its own blocks stay. -/
theorem Kd.W.setf {α : Type} {dk : Kd α} {e : TypeId} {F : List Nat} {v : Value} {xs : List α} (h : dk.W e w F v xs) (hn : F.Nodup) (j : Nat) (hj : j < xs.length) {y : α} {o : Nat} {vs : List Value} (ho : o + vs.length ≤ dk.sz)
    (hset : ∀ Fi ci, dk.O w Fi xs[j] ci → dk.O w Fi y (splice ci o vs)) :
    ∃ g cap cur, v = .slice (some ⟨g, 0, none⟩) xs.length cap ∧ w.heap[g]? = some (.cells cur e (0, 0)) ∧ j * dk.sz + o + vs.length ≤ cur.size ∧
      dk.W e (w.setRow g (cur.toList.take (j * dk.sz + o) ++ vs ++ cur.toList.drop (j * dk.sz + o + vs.length)).toArray) F v (xs.set j y) := by
  have hlt := h.lt
  obtain ⟨g, cap, cur, Fa, Fi, Fb, ca, ci, cb, rfl, hh, rfl, ht, hca, hci, ha, hi, hb, hnc, hcm, hcs⟩ := h.split j hj
  have hy := hset Fi ci hi
  have hci' : (splice ci o vs).length = dk.sz := dk.len (dk.own hy)
  have hjs : j * dk.sz + dk.sz ≤ xs.length * dk.sz := by
    have : (j + 1) * dk.sz ≤ xs.length * dk.sz := Nat.mul_le_mul_right _ hj
    rw [Nat.add_mul, Nat.one_mul] at this
    omega
  have hsz : xs.length * dk.sz ≤ cur.size := by rw [hcs]; exact Nat.mul_le_mul_right _ hnc
  obtain ⟨r1, r2⟩ := row_put (ci' := splice ci o vs) ht (by simpa using hsz) (by rw [hci', hci]) hca hci
  have hnd := List.nodup_cons.1 hn
  have hmv : ∀ k, k ∈ Fa ++ (Fi ++ Fb) → (w.setRow g (cur.toList.take (j * dk.sz) ++ splice ci o vs ++ cur.toList.drop (j * dk.sz + dk.sz)).toArray).heap[k]? = w.heap[k]? := by
    intro k hk
    refine (ch_setRow w g _).blk k (hlt k (List.mem_cons_of_mem _ hk)) ?_
    intro hg
    obtain rfl := List.mem_singleton.1 hg
    exact hnd.1 hk
  refine ⟨g, cap, cur, rfl, hh, by omega, ?_⟩
  rw [cut_in ht hca hci ho hjs]
  refine ⟨Fa ++ (Fi ++ Fb), ca ++ (splice ci o vs ++ cb), ⟨?_, .inr ⟨g, cap, _, by simp, Nat.zero_le _, setRow_heap w g cur _ e _ hh, by simpa using hnc, hcm, ?_, ?_⟩⟩, by simp [Value.ownBlock], ?_⟩
  · have hl1 := ha.length (sz := dk.sz) (fun _ _ _ h => dk.len (dk.own h))
    have hl2 := hb.length (sz := dk.sz) (fun _ _ _ h => dk.len (dk.own h))
    have hl3 : (cur.toList.take (xs.length * dk.sz)).length = xs.length * dk.sz := by rw [List.length_take]; simp; omega
    rw [ht] at hl3
    simp only [List.length_append, List.length_set] at hl3 ⊢
    omega
  · simp only [List.size_toArray]
    rw [r2]; simpa using hcs
  · rw [List.toList_toArray, List.length_set]
    exact r1
  · exact Els.put (R := dk.O _) hj (ha.imp (fun G' x c hG' hx => dk.mvO (fun k hk => hmv k (List.mem_append_left _ (hG' k hk))) hx)) (dk.mvO (fun k hk => hmv k (List.mem_append_right _ (List.mem_append_left _ hk))) hy)
      (hb.imp (fun G' x c hG' hx => dk.mvO (fun k hk => hmv k (List.mem_append_right _ (List.mem_append_right _ (hG' k hk)))) hx))
/-- 'xs[j].f = y': the address, the field's, then the store. -/
theorem ixf {α : Type} {dk : Kd α} {F : List Nat} {xs : List α} {v vy : Value} {t e e' s : TypeId} {x i y : Operand} {z zf : Value} {by_ byf szf f : Nat} {j : Nat} {kd : IntKind} {a : α} {d1 d2 : Nat} {ty1 ty2 : TypeId} {pos1 pos2 : String} {af1 af2 : Array Edge} {fs : Array Field} {fl : Field} {vs : List Value} {tf : TypeId} {off : Nat}
    (ht : P.underlying t = some (.slice e)) (hi : TI P e z dk.sz by_) (hs : P.underlying s = some (.struct fs)) (hf : fs[f]? = some fl) (hft : fl.type = tf) (hfo : fl.offset = off) (hif : TI P tf zf szf byf) (hp : Nat.blt 0 szf = true) (hx : ev ρ x = v) (hW : dk.W e' w F v xs) (hn : F.Nodup) (hj : ev ρ i = .int kd (j : Int)) (hlt : j < xs.length)
    (hy : ∀ p p', ev (upd (upd ρ d1 p) d2 p') y = vy) (hv : vy.cells.toList = vs) (hl : vs.length = szf) (h1 : ∀ u, u ∈ vs → u.oneCell' = true) (ho : off + szf ≤ dk.sz) (hset : ∀ w Fi ci, dk.O w Fi xs[j] ci → dk.O w Fi a (splice ci off vs))
    (h : ∀ p p' w', w'.heap.size = w.heap.size → dk.W e' w' F v (xs.set j a) → Ch v.ownBlock.toList w w' → L P n ops rest k Qf (upd (upd ρ d1 p) d2 p') ds w') :
    L P n ops (⟨some d1, .indexAddr t x i, ty, pos, af, none⟩ :: ⟨some d2, .fieldAddr s (.tmp d1) f, ty1, pos1, af1, none⟩ :: ⟨none, .store tf (.tmp d2) y, ty2, pos2, af2, none⟩ :: rest) k Qf ρ ds w := by
  subst hft hfo
  obtain ⟨g, cap, cur, rfl, hh, hjs, hW'⟩ := hW.setf hn j hlt (vs := vs) (o := fl.offset) (by omega) (hset w)
  obtain ⟨i0, hi0, hz, hsz, _⟩ := hif.size
  refine r (v := .pointer (some ((⟨g, 0, none⟩ : Addr).add (j * dk.sz)))) (ix ht hi hx hj hlt) ?_
  refine r (v := .pointer (some (((⟨g, 0, none⟩ : Addr).add (j * dk.sz)).add fl.offset))) (fa' hs hf hif hp (by simp [ev, updo, upd])) ?_
  have hr := run_storeCells_at P g (j * dk.sz + fl.offset) e' vs 0 cur w hh (by omega) h1
  simp only [Nat.add_zero] at hr
  refine ops_ (w' := w.setRow g (cur.toList.take (j * dk.sz + fl.offset) ++ vs ++ cur.toList.drop (j * dk.sz + fl.offset + vs.length)).toArray) rfl ?_ (h _ _ _ (by simp [World.setRow]) hW' (by simpa [Value.ownBlock] using ch_setRow w g _))
  have h2 : ev (updo (updo ρ (some d1) (.pointer (some ((⟨g, 0, none⟩ : Addr).add (j * dk.sz))))) (some d2) (.pointer (some (((⟨g, 0, none⟩ : Addr).add (j * dk.sz)).add fl.offset)))) y = vy := hy _ _
  have h3 : ev (updo (updo ρ (some d1) (.pointer (some ((⟨g, 0, none⟩ : Addr).add (j * dk.sz))))) (some d2) (.pointer (some (((⟨g, 0, none⟩ : Addr).add (j * dk.sz)).add fl.offset)))) (.tmp d2) = .pointer (some ⟨g, j * dk.sz + fl.offset, none⟩) := by
    simp [ev, updo, upd, add_mk]
  have hl' : vy.cells.size = szf := by rw [← hl, ← hv]; simp
  simp only [add_mk, Nat.zero_add] at h2 h3 ⊢
  simp [execOp, Instr.storeAt, Instr.sureAddr, h2, h3, storeVar, sizeOf, typeInfo, hi0, run_program, hsz, hl', hv, hr]

/-- Element j's own row: seen as a row of its own, and laid back when it has been changed. -/
theorem lens {α β : Type} {a : Kd α} {dl : Kd β} {e e1 : TypeId} {F : List Nat} {v : Value} {xs : List (α × List β)} (h : (a.prod (Kd.sl e1 dl)).W e w F v xs) (hn : F.Nodup) (j : Nat) (hj : j < xs.length) :
    ∃ vd Fd c ad, dl.W e1 w Fd vd xs[j].2 ∧ Fd.Nodup ∧ (∀ k, k ∈ Fd → k ∈ F) ∧ (∀ k, k ∈ Fd → k ∉ v.ownBlock.toList) ∧ v = .slice (some ad) xs.length c ∧ w.cell? ((ad.add (j * (a.sz + 1))).add a.sz) = some vd ∧
      ∀ w' Fd' ys, dl.W e1 w' Fd' vd ys → Fd'.Nodup → (∀ k, k ∈ Fd' → k ∈ Fd ∨ w.heap.size ≤ k) → Ch Fd w w' → ∃ F', (a.prod (Kd.sl e1 dl)).W e w' F' v (xs.set j (xs[j].1, ys)) ∧ F'.Nodup ∧ (∀ k, k ∈ F' → k ∈ F ∨ w.heap.size ≤ k) := by
  have hlt := h.lt
  obtain ⟨g, cap, cur, Fa, Fi, Fb, ca, ci, cb, rfl, hh, rfl, ht, hca, hci, ha, hi, hb, hnc, hcm, hcs⟩ := h.split j hj
  obtain ⟨F1, F2, c1, c2, rfl, rfl, hO1, vd, rfl, hO2⟩ := hi
  have hnd := List.nodup_cons.1 hn
  obtain ⟨n1, n2, n3, m1, m2, m3⟩ := nodup_mid.1 hnd.2
  obtain ⟨p1, p2, p3⟩ := nodup_app.1 n2
  have hc1 : c1.length = a.sz := a.len (a.own hO1)
  replace ht : cur.toList.take (xs.length * (a.sz + 1)) = ca ++ ((c1 ++ [vd]) ++ cb) := ht
  replace hca : ca.length = j * (a.sz + 1) := hca
  replace hcs : cur.size = cap * (a.sz + 1) := hcs
  refine ⟨vd, F2, cap, ⟨g, 0, none⟩, hO2, p2, fun k hk => by simp [hk], fun k hk hg => ?_, rfl, ?_, ?_⟩
  · simp [Value.ownBlock] at hg
    subst hg
    exact hnd.1 (by simp [hk])
  · rw [add_mk, add_mk, Nat.zero_add, cell_of_row w g _ cur e (0, 0) hh]
    have : (cur.toList.take (xs.length * (a.sz + 1)))[j * (a.sz + 1) + a.sz]? = some vd := by
      rw [ht, List.getElem?_append_right (by omega), hca, Nat.add_sub_cancel_left, List.getElem?_append_left (by simp; omega), List.getElem?_append_right (by omega), hc1]
      simp
    rw [List.getElem?_take] at this
    split at this
    · simpa using this
    · cases this
  · intro w' Fd' ys hW' hnd' hsub hch
    have hmv : ∀ k, k ∈ g :: (Fa ++ (F1 ++ F2 ++ Fb)) → k ∉ F2 → w'.heap[k]? = w.heap[k]? := fun k hk hn' => hch.blk k (hlt k hk) hn'
    have hg2 : g ∉ F2 := fun hg => hnd.1 (by simp [hg])
    have hnew : ∀ k, k ∈ Fd' → k ∉ F2 → w.heap.size ≤ k := fun k hk hn' => (hsub k hk).resolve_left hn'
    refine ⟨g :: (Fa ++ (F1 ++ Fd' ++ Fb)), ⟨Fa ++ (F1 ++ Fd' ++ Fb), ca ++ (c1 ++ [vd] ++ cb), ⟨?_, .inr ⟨g, cap, cur, by simp, Nat.zero_le _, (hmv g (by simp) hg2).trans hh, by simpa using hnc, hcm, hcs, ?_⟩⟩, by simp [Value.ownBlock], ?_⟩, ?_, ?_⟩
    · have hl3 : (cur.toList.take (xs.length * (a.sz + 1))).length = xs.length * (a.sz + 1) := by
        rw [List.length_take]
        have := Nat.mul_le_mul_right (a.sz + 1) hnc
        simp; omega
      rw [ht] at hl3
      simp only [List.length_append, List.length_set] at hl3 ⊢
      exact hl3
    · rw [List.length_set]; exact ht
    · refine Els.put (R := (a.prod (Kd.sl e1 dl)).O w') hj (ha.imp fun G' x c hG' hx => (a.prod (Kd.sl e1 dl)).mvO (fun k hk => hmv k (by simp [hG' k hk]) (fun hf => m1 k (hG' k hk) (by simp [hf]))) hx) ?_ (hb.imp fun G' x c hG' hx => (a.prod (Kd.sl e1 dl)).mvO (fun k hk => hmv k (by simp [hG' k hk]) (fun hf => m3 k (by simp [hf]) (hG' k hk))) hx)
      exact ⟨F1, Fd', c1, [vd], rfl, rfl, a.mvO (fun k hk => hmv k (by simp [hk]) (fun hf => p3 k hk hf)) hO1, vd, rfl, hW'⟩
    · have hx : ∀ k, k ∈ Fd' → k ∈ g :: (Fa ++ (F1 ++ F2 ++ Fb)) → k ∈ F2 := fun k hk hk' => by
        rcases hsub k hk with h | h
        · exact h
        · have := hlt k hk'; omega
      refine List.nodup_cons.2 ⟨fun hg => ?_, nodup_mid.2 ⟨n1, nodup_app.2 ⟨p1, hnd', fun k hk hf => p3 k hk (hx k hf (by simp [hk]))⟩, n3, fun k hk hf => ?_, m2, fun k hk hf => ?_⟩⟩
      · simp only [List.mem_append] at hg
        rcases hg with hg | (hg | hg) | hg
        · exact hnd.1 (by simp [hg])
        · exact hnd.1 (by simp [hg])
        · exact hg2 (hx g hg (by simp))
        · exact hnd.1 (by simp [hg])
      · rcases List.mem_append.1 hf with hf | hf
        · exact m1 k hk (by simp [hf])
        · exact m1 k hk (by simp [hx k hf (by simp [hk])])
      · rcases List.mem_append.1 hk with hk | hk
        · exact m3 k (by simp [hk]) hf
        · exact m3 k (by simp [hx k hk (by simp [hf])]) hf
    · intro k hk
      simp only [List.mem_cons, List.mem_append] at hk ⊢
      rcases hk with hk | hk | (hk | hk) | hk
      · exact .inl (.inl hk)
      · exact .inl (.inr (.inl hk))
      · exact .inl (.inr (.inr (.inl (.inl hk))))
      · rcases hsub k hk with h | h
        · exact .inl (.inr (.inr (.inl (.inr h))))
        · exact .inr h
      · exact .inl (.inr (.inr (.inr hk)))
/-- A row of one's own, turned by what has been done to it and to its elements' rows. -/
structure Mut {α : Type} (dk : Kd α) (e : TypeId) (w w' : World) (F F' : List Nat) (v : Value) (xs : List α) : Prop where
  W : dk.W e w' F' v xs
  nd : F'.Nodup
  sub : ∀ k, k ∈ F' → k ∈ F ∨ w.heap.size ≤ k
  ch : Ch F w w'
theorem Mut.refl {α : Type} {dk : Kd α} {e : TypeId} {F : List Nat} {v : Value} {xs : List α} (h : dk.W e w F v xs) (hn : F.Nodup) : Mut dk e w w F F v xs := ⟨h, hn, fun k hk => .inl hk, Ch.refl _ _⟩
theorem Mut.tr {α : Type} {dk : Kd α} {e : TypeId} {w1 w2 : World} {F F1 F2 : List Nat} {v : Value} {xs ys : List α} (A : Mut dk e w w1 F F1 v xs) (B : Mut dk e w1 w2 F1 F2 v ys) : Mut dk e w w2 F F2 v ys :=
  ⟨B.W, B.nd, fun k hk => (B.sub k hk).elim (A.sub k) (fun h => .inr (Nat.le_trans A.ch.size h)), A.ch.trans B.ch (fun k hk hl => (A.sub k hk).resolve_right (by omega))⟩
theorem Mut.of_Apd {α : Type} {dk : Kd α} {e : TypeId} {w1 : World} {F F1 : List Nat} {v : Value} {xs ys : List α} (hW : dk.W e w F v ys) (A : Apd dk e w w1 F [] F1 v v xs) : Mut dk e w w1 F F1 v xs :=
  ⟨A.W, A.nd, fun k hk => (A.sub k hk).elim .inl (fun h => h.elim (fun h => by cases h) .inr), A.ch.mono (fun k hk _ => W_own hW k hk)⟩
section
variable {α β : Type} {dk : Kd α} {dl : Kd β} {e e2 T : TypeId} {w0 w' : World} {F F' Fs : List Nat} {v vs : Value} {xs ys : List α} {zs : List β} {b : Nat} {cs : List Value}
theorem Mut.blk (A : Mut dk e w w' F F' v xs) (hW : dk.W e w F v ys) (d : ∀ k, k ∈ F → k ∉ [b]) (hb : B w b T cs) : B w' b T cs := A.ch.b hb (fun h => d b h (by simp))
theorem Mut.row (A : Mut dk e w w' F F' v xs) (hW : dk.W e w F v ys) (x : ∀ k, k ∈ Fs → k ∉ F) (h : dl.W e2 w Fs vs zs) : dl.W e2 w' Fs vs zs := h.tt A.ch x
theorem Mut.low (A : Mut dk e w w' F F' v xs) (hc : Ch [] w0 w) (f : ∀ k, k ∈ F → w0.heap.size ≤ k) : ∀ k, k ∈ F' → w0.heap.size ≤ k := fun k hk => (A.sub k hk).elim (f k) (Nat.le_trans hc.size)
theorem Mut.hc (A : Mut dk e w w' F F' v xs) (hW : dk.W e w F v ys) (hc : Ch [] w0 w) (f : ∀ k, k ∈ F → w0.heap.size ≤ k) : Ch [] w0 w' := hc.trans A.ch (fun k hk hl => absurd (f k hk) (by omega))
theorem Mut.dis (A : Mut dk e w w' F F' v xs) (d : ∀ k, k ∈ F → k ∉ [b]) (hb : b < w.heap.size) : ∀ k, k ∈ F' → k ∉ [b] := fun k hk => (A.sub k hk).elim (d k) (fun h => nin1 (by omega))
theorem Mut.x (A : Mut dk e w w' F F' v xs) (x : ∀ k, k ∈ Fs → k ∉ F) (hs : ∀ k, k ∈ Fs → k < w.heap.size) : ∀ k, k ∈ Fs → k ∉ F' := fun k hk h => (A.sub k h).elim (x k hk) (fun h => by have := hs k hk; omega)
end
end
end Go.Eng
