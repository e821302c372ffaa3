/-
  A LIST OF WHAT IS OWNED, OF MY OWN: resources side by side, one fact for all of them; a step turns one of them, a call turns some. Over any program. No condition.
-/
import Derived.Test.YtgpcanjmgdmdhaaDoorMore
namespace Go.Eng
set_option linter.unusedVariables false
set_option linter.unusedSimpArgs false

structure Rs where
  P : World → List Nat → Prop
  mv : ∀ {w w' : World} {F : List Nat}, (∀ k, k ∈ F → w'.heap[k]? = w.heap[k]?) → P w F → P w' F
  lt : ∀ {w : World} {F : List Nat}, P w F → ∀ k, k ∈ F → k < w.heap.size
def rB (g : Nat) (T : TypeId) (cs : List Value) : Rs where
  P w F := F = [g] ∧ B w g T cs
  mv := fun hm h => ⟨h.1, (hm g (by rw [h.1]; simp)).trans h.2⟩
  lt := fun h k hk => by rw [h.1] at hk; rw [List.mem_singleton.1 hk]; exact h.2.lt
def rO (g : Nat) (o : Obj) : Rs where
  P w F := F = [g] ∧ w.heap[g]? = some o
  mv := fun hm h => ⟨h.1, (hm g (by rw [h.1]; simp)).trans h.2⟩
  lt := fun h k hk => by rw [h.1] at hk; rw [List.mem_singleton.1 hk]; exact (Array.getElem?_eq_some_iff.1 h.2).1
def rR {α : Type} (dk : Kd α) (e : TypeId) (v : Value) (xs : List α) : Rs where
  P w F := dk.W e w F v xs
  mv := fun hm h => h.mv hm
  lt := fun h => h.lt
/-- Some resource or other out of a family. -/
def exR {β : Type} (r : β → Rs) : Rs where
  P w F := ∃ b, (r b).P w F
  mv := fun hm ⟨b, h⟩ => ⟨b, (r b).mv hm h⟩
  lt := fun ⟨b, h⟩ => (r b).lt h

def Hs (w : World) : List Rs → List Nat → Prop
  | [], F => F = []
  | r :: Γ, F => ∃ F1 F2, F = F1 ++ F2 ∧ r.P w F1 ∧ Hs w Γ F2
theorem Hs.mv {w w' : World} {Γ : List Rs} : ∀ {F : List Nat}, (∀ k, k ∈ F → w'.heap[k]? = w.heap[k]?) → Hs w Γ F → Hs w' Γ F := by
  induction Γ with
  | nil => exact fun _ h => h
  | cons r Γ ih =>
    rintro F hm ⟨F1, F2, rfl, h1, h2⟩
    exact ⟨F1, F2, rfl, r.mv (fun k hk => hm k (List.mem_append_left _ hk)) h1, ih (fun k hk => hm k (List.mem_append_right _ hk)) h2⟩
theorem Hs.lt {w : World} {Γ : List Rs} : ∀ {F : List Nat}, Hs w Γ F → ∀ k, k ∈ F → k < w.heap.size := by
  induction Γ with
  | nil => rintro F rfl k hk; cases hk
  | cons r Γ ih =>
    rintro F ⟨F1, F2, rfl, h1, h2⟩ k hk
    rcases List.mem_append.1 hk with hk | hk
    · exact r.lt h1 k hk
    · exact ih h2 k hk
theorem Hs.app {w : World} {Γ Δ : List Rs} : ∀ {F G : List Nat}, Hs w Γ F → Hs w Δ G → Hs w (Γ ++ Δ) (F ++ G) := by
  induction Γ with
  | nil => rintro F G rfl h; exact h
  | cons r Γ ih =>
    rintro F G ⟨F1, F2, rfl, h1, h2⟩ h
    exact ⟨F1, F2 ++ G, by simp, h1, ih h2 h⟩
theorem Hs.split {w : World} {Γ Δ : List Rs} : ∀ {F : List Nat}, Hs w (Γ ++ Δ) F → ∃ F1 F2, F = F1 ++ F2 ∧ Hs w Γ F1 ∧ Hs w Δ F2 := by
  induction Γ with
  | nil => exact fun h => ⟨[], _, rfl, rfl, h⟩
  | cons r Γ ih =>
    rintro F ⟨F1, F2, rfl, h1, h2⟩
    obtain ⟨G1, G2, rfl, g1, g2⟩ := ih h2
    exact ⟨F1 ++ G1, G2, by simp, ⟨F1, G1, rfl, h1, g1⟩, g2⟩
theorem Hs.one {w : World} {r : Rs} {F : List Nat} (h : r.P w F) : Hs w [r] F := ⟨F, [], by simp, h, rfl⟩
theorem Hs.one' {w : World} {r : Rs} {F : List Nat} (h : Hs w [r] F) : r.P w F := by
  obtain ⟨F1, F2, rfl, h1, rfl⟩ := h
  simpa using h1
theorem Hs.perm {w : World} {Γ Δ : List Rs} (hp : Γ.Perm Δ) : ∀ {F : List Nat}, Hs w Γ F → ∃ G, F.Perm G ∧ Hs w Δ G := by
  induction hp with
  | nil => exact fun h => ⟨_, .refl _, h⟩
  | cons r _ ih =>
    rintro F ⟨F1, F2, rfl, h1, h2⟩
    obtain ⟨G, hG, h⟩ := ih h2
    exact ⟨F1 ++ G, hG.append_left _, F1, G, rfl, h1, h⟩
  | swap a b l =>
    rintro F ⟨F1, F2, rfl, h1, F3, F4, rfl, h2, h3⟩
    refine ⟨F3 ++ (F1 ++ F4), ?_, F3, F1 ++ F4, rfl, h2, F1, F4, rfl, h1, h3⟩
    rw [← List.append_assoc, ← List.append_assoc]
    exact List.perm_append_comm.append_right _
  | trans _ _ ih1 ih2 =>
    intro F h
    obtain ⟨G, hG, h⟩ := ih1 h
    obtain ⟨G', hG', h⟩ := ih2 h
    exact ⟨G', hG.trans hG', h⟩
theorem perm_idx {α : Type} (is : List Nat) (l : List α) (h : is.Perm (List.range l.length)) : (is.filterMap (fun i => l[i]?)).Perm l := by
  have h1 := h.filterMap (fun i => l[i]?)
  have h2 : (List.range l.length).filterMap (fun i => l[i]?) = l := by
    clear h h1 is
    induction l with
    | nil => rfl
    | cons a l ih =>
      rw [List.length_cons, List.range_succ_eq_map, List.filterMap_cons, List.filterMap_map]
      simp only [List.getElem?_cons_zero]
      congr 1
  rwa [h2] at h1

/-- Of the blocks F of w (and of new ones) F' has come; no others of w have changed. -/
structure Turn (w w' : World) (F F' : List Nat) : Prop where
  nd : F'.Nodup
  sub : ∀ k, k ∈ F' → k ∈ F ∨ w.heap.size ≤ k
  ch : Ch F w w'
theorem Turn.new {w w' : World} {F : List Nat} (n : F.Nodup) (f : ∀ k, k ∈ F → w.heap.size ≤ k) (c : Ch [] w w') : Turn w w' [] F := ⟨n, fun k hk => .inr (f k hk), c⟩
theorem Turn.own {w w' : World} {F F' : List Nat} (n : F'.Nodup) (f : ∀ k, k ∈ F' → k ∈ F) (c : Ch F w w') : Turn w w' F F' := ⟨n, fun k hk => .inl (f k hk), c⟩
theorem Turn.trans {w w1 w2 : World} {F F1 F2 : List Nat} (h : Turn w w1 F F1) (h' : Turn w1 w2 F1 F2) : Turn w w2 F F2 :=
  ⟨h'.nd, fun k hk => (h'.sub k hk).elim (h.sub k) (fun g => .inr (Nat.le_trans h.ch.size g)), h.ch.trans h'.ch (fun k hk hl => (h.sub k hk).resolve_right (by omega))⟩

def Hold (w0 : World) (F0 : List Nat) (w : World) (Γ : List Rs) : Prop := ∃ F, Hs w Γ F ∧ Turn w0 w F0 F
section
variable {w0 w w' : World} {F0 : List Nat} {Γ Δ : List Rs} {i : Nat}
theorem Hold.start (w : World) : Hold w [] w [] := ⟨[], rfl, by simp, (fun k hk => by cases hk), Ch.refl _ _⟩
theorem Hold.begin {F : List Nat} (h : Hs w Γ F) (n : F.Nodup) : Hold w F w Γ := ⟨F, h, n, fun k hk => .inl hk, Ch.refl _ _⟩
theorem Hold.ch (H : Hold w0 F0 w Γ) : Ch F0 w0 w := let ⟨_, _, T⟩ := H; T.ch
theorem Hold.size (H : Hold w0 F0 w Γ) : w0.heap.size ≤ w.heap.size := H.ch.size
/-- Whatever else has come of nothing. -/
theorem Hold.t (H : Hold w0 F0 w Γ) (c : Ch [] w w') : Hold w0 F0 w' Γ := by
  obtain ⟨F, h, n, s, c0⟩ := H
  exact ⟨F, h.mv (fun k hk => c.blk k (h.lt k hk) (by simp)), n, s, c0.t c⟩
theorem Hold.re (H : Hold w0 F0 w Γ) (is : List Nat) (hp : is.isPerm (List.range Γ.length) = true) (e : is.filterMap (fun i => Γ[i]?) = Δ) : Hold w0 F0 w Δ := by
  obtain ⟨F, h, n, s, c⟩ := H
  have hp' := perm_idx is Γ (List.isPerm_iff.1 hp)
  rw [e] at hp'
  obtain ⟨G, hG, h'⟩ := h.perm hp'.symm
  exact ⟨G, h', hG.nodup_iff.1 n, fun k hk => s k (hG.mem_iff.2 hk), c⟩
/-- The first of them: whatever they are turned to. -/
theorem Hold.front (H : Hold w0 F0 w (Γ ++ Δ)) : ∃ F, Hs w Γ F ∧ F.Nodup ∧ (∀ k, k ∈ F → k ∈ F0 ∨ w0.heap.size ≤ k) ∧ ∀ w' Γ' F', Hs w' Γ' F' → Turn w w' F F' → Hold w0 F0 w' (Γ' ++ Δ) := by
  obtain ⟨F, h, n, s, c⟩ := H
  obtain ⟨F1, F2, rfl, h1, h2⟩ := h.split
  obtain ⟨n1, n2, n3⟩ := nodup_app.1 n
  refine ⟨F1, h1, n1, fun k hk => s k (List.mem_append_left _ hk), fun w' Γ' F' h' T => ⟨F' ++ F2, h'.app (h2.mv fun k hk => T.ch.blk k (h2.lt k hk) (fun hk' => n3 k hk' hk)), nodup_app.2 ⟨T.nd, n2, fun k hk hk2 => ?_⟩, fun k hk => ?_, ?_⟩⟩
  · rcases T.sub k hk with hk' | hk'
    · exact n3 k hk' hk2
    · have := h2.lt k hk2; omega
  · rcases List.mem_append.1 hk with hk | hk
    · rcases T.sub k hk with hk' | hk'
      · exact s k (List.mem_append_left _ hk')
      · exact .inr (Nat.le_trans c.size hk')
    · exact s k (List.mem_append_right _ hk)
  · exact c.trans T.ch (fun k hk hl => (s k (List.mem_append_left _ hk)).resolve_right (by omega))
/-- Number i. -/
theorem Hs.pick {r : Rs} {i : Nat} {F : List Nat} (h : Hs w Γ F) (hi : Γ[i]? = some r) : ∃ Fa Fi Fb, F = Fa ++ (Fi ++ Fb) ∧ Hs w (Γ.take i) Fa ∧ r.P w Fi ∧ Hs w (Γ.drop (i + 1)) Fb := by
  have hl := (List.getElem?_eq_some_iff.1 hi).1
  have e : Γ = Γ.take i ++ (r :: Γ.drop (i + 1)) := by
    have := List.getElem_of_getElem? hi
    obtain ⟨_, rfl⟩ := this
    rw [← List.drop_eq_getElem_cons hl, List.take_append_drop]
  rw [e] at h
  obtain ⟨F1, F2, rfl, h1, Fi, Fb, rfl, h2, h3⟩ := h.split
  exact ⟨F1, Fi, Fb, rfl, h1, h2, h3⟩
theorem Hold.pick {r : Rs} (H : Hold w0 F0 w Γ) (i : Nat) (hi : Γ[i]? = some r) : ∃ F, r.P w F ∧ F.Nodup ∧ (∀ k, k ∈ F → k ∈ F0 ∨ w0.heap.size ≤ k) ∧ ∀ w' r' F' Γ', r'.P w' F' → Turn w w' F F' → Γ.set i r' = Γ' → Hold w0 F0 w' Γ' := by
  obtain ⟨F, h, n, s, c⟩ := H
  have hl := (List.getElem?_eq_some_iff.1 hi).1
  obtain ⟨Fa, Fi, Fb, rfl, h1, h2, h3⟩ := h.pick hi
  obtain ⟨n1, n2, n3, m1, m2, m3⟩ := nodup_mid.1 n
  have hs : ∀ k, k ∈ Fi → k ∈ F0 ∨ w0.heap.size ≤ k := fun k hk => s k (by simp [hk])
  refine ⟨Fi, h2, n2, hs, fun w' r' F' Γ' h' T e => ⟨Fa ++ (F' ++ Fb), ?_, nodup_mid.2 ⟨n1, T.nd, n3, fun k hk hk2 => ?_, m2, fun k hk hk2 => ?_⟩, fun k hk => ?_, ?_⟩⟩
  · rw [← e, List.set_eq_take_append_cons_drop, if_pos hl]
    exact (h1.mv fun k hk => T.ch.blk k (h1.lt k hk) (m1 k hk)).app ⟨F', Fb, rfl, h', h3.mv fun k hk => T.ch.blk k (h3.lt k hk) (fun hk' => m3 k hk' hk)⟩
  · rcases T.sub k hk2 with hk' | hk'
    · exact m1 k hk hk'
    · have := h1.lt k hk; omega
  · rcases T.sub k hk with hk' | hk'
    · exact m3 k hk' hk2
    · have := h3.lt k hk2; omega
  · simp only [List.mem_append] at hk
    rcases hk with hk | hk | hk
    · exact s k (by simp [hk])
    · rcases T.sub k hk with hk' | hk'
      · exact hs k hk'
      · exact .inr (Nat.le_trans c.size hk')
    · exact s k (by simp [hk])
  · exact c.trans T.ch (fun k hk hl => (hs k hk).resolve_right (by omega))
theorem Hold.res {r : Rs} (H : Hold w0 F0 w Γ) (i : Nat) (hi : Γ[i]? = some r) : ∃ F, r.P w F := let ⟨F, h, _⟩ := H.pick i hi; ⟨F, h⟩
/-- A block; a row, to be read. -/
theorem Hold.blk {g : Nat} {T : TypeId} {cs : List Value} (H : Hold w0 F0 w Γ) (i : Nat) (hi : Γ[i]? = some (rB g T cs)) : B w g T cs := let ⟨_, h⟩ := H.res i hi; h.2
theorem Hold.obj {g : Nat} {o : Obj} (H : Hold w0 F0 w Γ) (i : Nat) (hi : Γ[i]? = some (rO g o)) : w.heap[g]? = some o := let ⟨_, h⟩ := H.res i hi; h.2
theorem Hold.row {α : Type} {dk : Kd α} {e : TypeId} {v : Value} {xs : List α} (H : Hold w0 F0 w Γ) (i : Nat) (hi : Γ[i]? = some (rR dk e v xs)) : ∃ F, dk.R w F v xs := let ⟨F, h⟩ := H.res i hi; ⟨F, Kd.W.R h⟩
theorem Hold.rowW {α : Type} {dk : Kd α} {e : TypeId} {v : Value} {xs : List α} (H : Hold w0 F0 w Γ) (i : Nat) (hi : Γ[i]? = some (rR dk e v xs)) : ∃ F, dk.W e w F v xs := H.res i hi
/-- What a call, given F, has left of it stands in the place of these. -/
theorem Hold.call {F : List Nat} {Γ' : List Rs} (K : ∀ w' Γ' F', Hs w' Γ' F' → Turn w w' F F' → Hold w0 F0 w' (Γ' ++ Δ)) (H' : Hold w F w' Γ') : Hold w0 F0 w' (Γ' ++ Δ) := let ⟨F', h, T⟩ := H'; K w' Γ' F' h T
/-- What a call has made of nothing is laid beside. -/
theorem Hold.news (H : Hold w0 F0 w Γ) (H' : Hold w [] w' Δ) : Hold w0 F0 w' (Γ ++ Δ) := by
  obtain ⟨F, h, n, s, c⟩ := H
  obtain ⟨F', h', n', s', c'⟩ := H'
  refine ⟨F ++ F', (h.mv fun k hk => c'.blk k (h.lt k hk) (by simp)).app h', nodup_app.2 ⟨n, n', fun k hk hk2 => ?_⟩, fun k hk => ?_, c.t c'⟩
  · have := h.lt k hk
    rcases s' k hk2 with h | h
    · cases h
    · omega
  · rcases List.mem_append.1 hk with hk | hk
    · exact s k hk
    · rcases s' k hk with h | h
      · cases h
      · exact .inr (Nat.le_trans c.size h)
theorem Hold.new {r : Rs} {F : List Nat} (H : Hold w0 F0 w Γ) (h : r.P w' F) (n : F.Nodup) (f : ∀ k, k ∈ F → w.heap.size ≤ k) (c : Ch [] w w') : Hold w0 F0 w' (Γ ++ [r]) := H.news ⟨F, Hs.one h, Turn.new n f c⟩
/-- A block that is new. -/
theorem Hold.newB {g : Nat} {T : TypeId} {cs : List Value} (H : Hold w0 F0 w Γ) (e : g = w.heap.size) (h : B w' g T cs) (c : Ch [] w w') : Hold w0 F0 w' (Γ ++ [rB g T cs]) :=
  H.new (r := rB g T cs) ⟨rfl, h⟩ (by simp) (fun k hk => by rw [List.mem_singleton.1 hk, e]; exact Nat.le_refl _) c
/-- A store into a block. -/
theorem Hold.setB {g : Nat} {T : TypeId} {cs cs' : List Value} (H : Hold w0 F0 w Γ) (i : Nat) (hi : Γ[i]? = some (rB g T cs)) (h : B w' g T cs') (c : Ch [g] w w') (e : Γ.set i (rB g T cs') = Δ) : Hold w0 F0 w' Δ := by
  obtain ⟨F, hp, n, s, K⟩ := H.pick i hi
  obtain ⟨rfl, _⟩ := hp
  exact K w' (rB g T cs') [g] Δ ⟨rfl, h⟩ (Turn.own (by simp) (fun k hk => hk) c) e
/-- Some are let go. -/
theorem Hold.drop (H : Hold w0 F0 w (Γ ++ Δ)) : Hold w0 F0 w Γ := by
  obtain ⟨F, h, n, s, c⟩ := H
  obtain ⟨F1, F2, rfl, h1, h2⟩ := h.split
  exact ⟨F1, h1, (nodup_app.1 n).1, fun k hk => s k (List.mem_append_left _ hk), c⟩
/-- An append onto a row of one's own; a change of it. -/
theorem Hold.apd {α : Type} {dk : Kd α} {e : TypeId} {v v' : Value} {xs ys : List α} {F F' : List Nat} (K : ∀ w' r' F' Γ', r'.P w' F' → Turn w w' F F' → Γ.set i r' = Γ' → Hold w0 F0 w' Γ') (hW : dk.W e w F v ys) (A : Apd dk e w w' F [] F' v v' xs) (he : Γ.set i (rR dk e v' xs) = Δ) : Hold w0 F0 w' Δ :=
  K w' (rR dk e v' xs) F' Δ A.W ⟨A.nd, fun k hk => (A.sub k hk).elim .inl (fun h => h.elim (fun h => by cases h) .inr), A.ch.mono (fun k hk _ => W_own hW k hk)⟩ he
theorem Hold.mut {α : Type} {dk : Kd α} {e : TypeId} {v : Value} {xs ys : List α} {F F' : List Nat} (K : ∀ w' r' F' Γ', r'.P w' F' → Turn w w' F F' → Γ.set i r' = Γ' → Hold w0 F0 w' Γ') (A : Mut dk e w w' F F' v xs) (he : Γ.set i (rR dk e v xs) = Δ) : Hold w0 F0 w' Δ :=
  K w' (rR dk e v xs) F' Δ A.W ⟨A.nd, A.sub, A.ch⟩ he
/-- The end: all that is left. -/
theorem Hold.last {r : Rs} (H : Hold w0 [] w Γ) (i : Nat) (hi : Γ[i]? = some r) : Hold w0 [] w [r] := by
  obtain ⟨F, h, n, s, c⟩ := H
  obtain ⟨Fa, Fi, Fb, rfl, h1, h2, h3⟩ := h.pick hi
  obtain ⟨n1, n2, n3, m1, m2, m3⟩ := nodup_mid.1 n
  exact ⟨Fi, Hs.one h2, n2, fun k hk => s k (by simp [hk]), c⟩
theorem Hold.nil (H : Hold w0 F0 w Γ) : Hold w0 F0 w [] := by
  obtain ⟨F, h, n, s, c⟩ := H
  exact ⟨[], rfl, by simp, (fun k hk => by cases hk), c.mono (fun k hk _ => hk)⟩
theorem Hold.row1 {α : Type} {dk : Kd α} {e : TypeId} {v : Value} {xs : List α} (H : Hold w0 [] w [rR dk e v xs]) : ∃ F, dk.W e w F v xs ∧ F.Nodup ∧ ∀ k, k ∈ F → w0.heap.size ≤ k := by
  obtain ⟨F, h, n, s, c⟩ := H
  exact ⟨F, h.one', n, fun k hk => (s k hk).resolve_left (fun h => by cases h)⟩
end
end Go.Eng
