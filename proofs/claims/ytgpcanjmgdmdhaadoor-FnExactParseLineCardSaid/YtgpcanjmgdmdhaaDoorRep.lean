/-
  WHAT LIES IN MEMORY, OF MY OWN: blocks, what has changed since, rows that are read and rows that are owned, with the blocks they take up. Over any program. No condition.
-/
import Derived.Test.YtgpcanjmgdmdhaaDoorEng
namespace Go.Eng
set_option linter.unusedVariables false
set_option linter.unusedSimpArgs false

/-- Block g is a row of cells of element type T, unfrozen. -/
def B (w : World) (g : Nat) (T : TypeId) (cs : List Value) : Prop := w.heap[g]? = some (.cells cs.toArray T (0, 0))
theorem B.lt {w : World} {g : Nat} {T : TypeId} {cs : List Value} (h : B w g T cs) : g < w.heap.size := (Array.getElem?_eq_some_iff.1 h).1
theorem B.cell {w : World} {g : Nat} {T : TypeId} {cs : List Value} (h : B w g T cs) (o : Nat) : w.cell? ⟨g, o, none⟩ = cs[o]? := by simp [World.cell?, show w.heap[g]? = _ from h]
theorem B.froz {w : World} {g : Nat} {T : TypeId} {cs : List Value} (h : B w g T cs) (o : Nat) : w.frozen? ⟨g, o, none⟩ = false := by simp [World.frozen?, show w.heap[g]? = _ from h]

/-- Of the blocks of w none but those of F have changed. -/
structure Ch (F : List Nat) (w w' : World) : Prop where
  os : w'.os = w.os
  tape : w'.tape = w.tape
  output : w'.output = w.output
  size : w.heap.size ≤ w'.heap.size
  blk : ∀ k, k < w.heap.size → k ∉ F → w'.heap[k]? = w.heap[k]?
theorem Ch.refl (F : List Nat) (w : World) : Ch F w w := ⟨rfl, rfl, rfl, Nat.le_refl _, fun _ _ _ => rfl⟩
theorem Ch.trans {F G : List Nat} {w w1 w2 : World} (h : Ch F w w1) (h' : Ch G w1 w2) (hG : ∀ k, k ∈ G → k < w.heap.size → k ∈ F) : Ch F w w2 :=
  ⟨h'.os.trans h.os, h'.tape.trans h.tape, h'.output.trans h.output, Nat.le_trans h.size h'.size, fun k hk hn =>
    (h'.blk k (Nat.lt_of_lt_of_le hk h.size) (fun hg => hn (hG k hg hk))).trans (h.blk k hk hn)⟩
theorem Ch.t {F : List Nat} {w w1 w2 : World} (h : Ch F w w1) (h' : Ch [] w1 w2) : Ch F w w2 := h.trans h' (fun _ hk => by cases hk)
theorem Ch.mono {F G : List Nat} {w w1 : World} (h : Ch F w w1) (hG : ∀ k, k ∈ F → k < w.heap.size → k ∈ G) : Ch G w w1 :=
  ⟨h.os, h.tape, h.output, h.size, fun k hk hn => h.blk k hk (fun hf => hn (hG k hf hk))⟩
theorem Ch.below {w w1 : World} (h : Ch [] w w1) : Go.RowKit.Below w.heap.size w w1 := ⟨h.os, h.tape, h.output, h.size, fun k hk => h.blk k hk (by simp)⟩
theorem Ch.b {F : List Nat} {w w1 : World} {g : Nat} {T : TypeId} {cs : List Value} (h : Ch F w w1) (hb : B w g T cs) (hg : g ∉ F) : B w1 g T cs := (h.blk g hb.lt hg).trans hb
theorem Ch.b0 {w w1 : World} {g : Nat} {T : TypeId} {cs : List Value} (h : Ch [] w w1) (hb : B w g T cs) : B w1 g T cs := h.b hb (by simp)
theorem ch_alloc (w : World) (o : Obj) : Ch [] w (w.alloc o) := ⟨rfl, rfl, rfl, by simp, fun k hk _ => Go.RowKit.Below.heap_alloc _ _ _ hk⟩
theorem ch_drew (w : World) (n : Nat) : Ch [] w { w with drawn := n } := ⟨rfl, rfl, rfl, Nat.le_refl _, fun _ _ _ => rfl⟩
theorem b_alloc (w : World) (cs : List Value) (T : TypeId) : B (w.alloc (.cells cs.toArray T)) w.heap.size T cs := heap_alloc_new w _
theorem ch_setRow (w : World) (g : Nat) (cs : Array Value) : Ch [g] w (w.setRow g cs) := by
  refine ⟨rfl, rfl, rfl, by simp [World.setRow], fun k hk hn => ?_⟩
  exact setRow_other w g k _ (fun e => hn (by simp [e]))
theorem ch_setCell (w : World) (a : Addr) (v : Value) : Ch [a.block] w (w.setCell a v) := by
  refine ⟨rfl, rfl, rfl, by simp [World.setCell], fun k hk hn => ?_⟩
  exact Go.RowKit.Below.heap_setCell _ _ _ _ (fun e => hn (by simp [e]))

/-! ### Blocks of one's own: what the walks ask all the time -/
theorem ne_new {b g n : Nat} (h : b < n) (e : g = n) : b ≠ g := by omega
theorem le_new {a g n : Nat} (h : a ≤ n) (e : g = n) : a ≤ g := by omega
theorem nin1 {b g : Nat} (h : b ≠ g) : b ∉ [g] := by simp [h]
theorem Ch.own {w w1 w2 : World} {g : Nat} (h : Ch [] w w1) (h' : Ch [g] w1 w2) (hg : w.heap.size ≤ g) : Ch [] w w2 := h.trans h' (fun k hk hl => by simp at hk; omega)
theorem nb_app {F G : List Nat} {b : Nat} (h : ∀ k, k ∈ F → k ∉ [b]) (h' : ∀ k, k ∈ G → k ∉ [b]) : b ∉ F ++ G := fun hb => (List.mem_append.1 hb).elim (fun hb => h b hb (by simp)) (fun hb => h' b hb (by simp))
theorem x_app {F G H : List Nat} (h : ∀ k, k ∈ F → k ∉ G) (h' : ∀ k, k ∈ F → k ∉ H) : ∀ k, k ∈ F → k ∉ G ++ H := fun k hk hb => (List.mem_append.1 hb).elim (h k hk) (h' k hk)
theorem Ch.own2 {w w1 w2 : World} {F G : List Nat} (h : Ch [] w w1) (h' : Ch (F ++ G) w1 w2) (hF : ∀ k, k ∈ F → w.heap.size ≤ k) (hG : ∀ k, k ∈ G → w.heap.size ≤ k) : Ch [] w w2 := h.trans h' (fun k hk hl => absurd ((List.mem_append.1 hk).elim (hF k) (hG k)) (by omega))
theorem oc {v : Value} {l : List Value} (h : v.oneCell' = true) (hl : ∀ u, u ∈ l → u.oneCell' = true) : ∀ u, u ∈ v :: l → u.oneCell' = true := fun u hu => (List.mem_cons.1 hu).elim (fun e => e ▸ h) (hl u)
theorem on : ∀ u, u ∈ ([] : List Value) → u.oneCell' = true := fun u hu => by cases hu
theorem fresh_d {F : List Nat} {g n : Nat} (h : ∀ k, k ∈ F → k < n) (e : g = n) : ∀ k, k ∈ F → k ∉ [g] := fun k hk => nin1 (by have := h k hk; omega)
theorem old_d {F : List Nat} {g n : Nat} (h : ∀ k, k ∈ F → n ≤ k) (e : g < n) : ∀ k, k ∈ F → k ∉ [g] := fun k hk => nin1 (by have := h k hk; omega)

theorem add_mk (g o j : Nat) : (⟨g, o, none⟩ : Addr).add j = ⟨g, o + j, none⟩ := by unfold Addr.add; split <;> simp_all
theorem add_block (a : Addr) (j : Nat) : (a.add j).block = a.block := by unfold Addr.add; split <;> rfl
theorem add_add (a : Addr) (i j : Nat) : (a.add i).add j = a.add (i + j) := by
  unfold Addr.add
  by_cases hi : i = 0
  · subst hi; simp
  · by_cases hj : j = 0
    · subst hj; simp
    · rw [if_neg hi, if_neg hj, if_neg (by omega)]
      simp [Nat.add_assoc]

/-! ### Lists of elements as lists of cells -/
def Els {α : Type} (R : List Nat → α → List Value → Prop) : List Nat → List α → List Value → Prop
  | F, [], cs => F = [] ∧ cs = []
  | F, x :: xs, cs => ∃ F1 F2 c1 c2, F = F1 ++ F2 ∧ cs = c1 ++ c2 ∧ R F1 x c1 ∧ Els R F2 xs c2
theorem Els.imp {α : Type} {R R' : List Nat → α → List Value → Prop} {xs : List α} : ∀ {F : List Nat} {cs : List Value}, (∀ G x c, (∀ k, k ∈ G → k ∈ F) → R G x c → R' G x c) → Els R F xs cs → Els R' F xs cs := by
  induction xs with
  | nil => exact fun _ h => h
  | cons x xs ih =>
    rintro F cs hi ⟨F1, F2, c1, c2, rfl, rfl, h1, h2⟩
    exact ⟨F1, F2, c1, c2, rfl, rfl, hi _ _ _ (fun k hk => List.mem_append_left _ hk) h1, ih (fun G x c hG h => hi G x c (fun k hk => List.mem_append_right _ (hG k hk)) h) h2⟩
theorem Els.snoc {α : Type} {R : List Nat → α → List Value → Prop} {xs : List α} {y : α} {G : List Nat} {d : List Value} (hy : R G y d) : ∀ {F : List Nat} {cs : List Value}, Els R F xs cs → Els R (F ++ G) (xs ++ [y]) (cs ++ d) := by
  induction xs with
  | nil =>
    rintro F cs ⟨rfl, rfl⟩
    exact ⟨G, [], d, [], by simp, by simp, hy, rfl, rfl⟩
  | cons x xs ih =>
    rintro F cs ⟨F1, F2, c1, c2, rfl, rfl, h1, h2⟩
    exact ⟨F1, F2 ++ G, c1, c2 ++ d, by simp, by simp, h1, ih h2⟩
theorem Els.app {α : Type} {R : List Nat → α → List Value → Prop} {xs ys : List α} {G : List Nat} {d : List Value} (hy : Els R G ys d) : ∀ {F : List Nat} {cs : List Value}, Els R F xs cs → Els R (F ++ G) (xs ++ ys) (cs ++ d) := by
  induction xs with
  | nil =>
    rintro F cs ⟨rfl, rfl⟩
    exact hy
  | cons x xs ih =>
    rintro F cs ⟨F1, F2, c1, c2, rfl, rfl, h1, h2⟩
    exact ⟨F1, F2 ++ G, c1, c2 ++ d, by simp, by simp, h1, ih h2⟩
theorem Els.length {α : Type} {R : List Nat → α → List Value → Prop} {sz : Nat} (hl : ∀ F x c, R F x c → c.length = sz) {xs : List α} : ∀ {F : List Nat} {cs : List Value}, Els R F xs cs → cs.length = xs.length * sz := by
  induction xs with
  | nil => rintro F cs ⟨_, rfl⟩; simp
  | cons x xs ih =>
    rintro F cs ⟨F1, F2, c1, c2, rfl, rfl, h1, h2⟩
    rw [List.length_append, hl _ _ _ h1, ih h2, List.length_cons, Nat.add_mul, Nat.one_mul, Nat.add_comm]
theorem Els.all {α : Type} {R : List Nat → α → List Value → Prop} {p : Value → Prop} (hl : ∀ F x c, R F x c → ∀ u, u ∈ c → p u) {xs : List α} : ∀ {F : List Nat} {cs : List Value}, Els R F xs cs → ∀ u, u ∈ cs → p u := by
  induction xs with
  | nil => rintro F cs ⟨_, rfl⟩ u hu; cases hu
  | cons x xs ih =>
    rintro F cs ⟨F1, F2, c1, c2, rfl, rfl, h1, h2⟩ u hu
    rcases List.mem_append.1 hu with hu | hu
    · exact hl _ _ _ h1 u hu
    · exact ih h2 u hu
theorem Els.blocks {α : Type} {R : List Nat → α → List Value → Prop} {p : Nat → Prop} (hl : ∀ F x c, R F x c → ∀ k, k ∈ F → p k) {xs : List α} : ∀ {F : List Nat} {cs : List Value}, Els R F xs cs → ∀ k, k ∈ F → p k := by
  induction xs with
  | nil => rintro F cs ⟨rfl, _⟩ u hu; cases hu
  | cons x xs ih =>
    rintro F cs ⟨F1, F2, c1, c2, rfl, rfl, h1, h2⟩ u hu
    rcases List.mem_append.1 hu with hu | hu
    · exact hl _ _ _ h1 u hu
    · exact ih h2 u hu
/-- Element i, and the elements before and behind it. -/
theorem Els.at {α : Type} {R : List Nat → α → List Value → Prop} {sz : Nat} (hl : ∀ F x c, R F x c → c.length = sz) {xs : List α} : ∀ {F : List Nat} {cs : List Value} (i : Nat) (hi : i < xs.length), Els R F xs cs →
    ∃ Fa Fi Fb ca ci cb, F = Fa ++ (Fi ++ Fb) ∧ cs = ca ++ (ci ++ cb) ∧ ca.length = i * sz ∧ ci.length = sz ∧ Els R Fa (xs.take i) ca ∧ R Fi xs[i] ci ∧ Els R Fb (xs.drop (i + 1)) cb := by
  induction xs with
  | nil => intro F cs i hi; cases hi
  | cons x xs ih =>
    rintro F cs i hi ⟨F1, F2, c1, c2, rfl, rfl, h1, h2⟩
    cases i with
    | zero => exact ⟨[], F1, F2, [], c1, c2, by simp, by simp, by simp, hl _ _ _ h1, ⟨rfl, rfl⟩, h1, by simpa using h2⟩
    | succ i =>
      obtain ⟨Fa, Fi, Fb, ca, ci, cb, rfl, rfl, hc, hs, ha, hi', hb⟩ := ih i (by simpa using hi) h2
      exact ⟨F1 ++ Fa, Fi, Fb, c1 ++ ca, ci, cb, by simp, by simp, by rw [List.length_append, hl _ _ _ h1, hc, Nat.add_mul, Nat.one_mul, Nat.add_comm], hs, ⟨F1, Fa, c1, ca, rfl, rfl, h1, ha⟩, by simpa using hi', by simpa using hb⟩
theorem Els.put {α : Type} {R : List Nat → α → List Value → Prop} {xs : List α} {i : Nat} {y : α} {Fa Fi Fb : List Nat} {ca ci cb : List Value} (hi : i < xs.length) (ha : Els R Fa (xs.take i) ca) (hy : R Fi y ci) (hb : Els R Fb (xs.drop (i + 1)) cb) :
    Els R (Fa ++ (Fi ++ Fb)) (xs.set i y) (ca ++ (ci ++ cb)) := by
  have : xs.set i y = xs.take i ++ (y :: xs.drop (i + 1)) := by rw [List.set_eq_take_append_cons_drop, if_pos hi]
  rw [this]
  exact Els.app (R := R) (ys := y :: xs.drop (i + 1)) ⟨Fi, Fb, ci, cb, rfl, rfl, hy, hb⟩ ha

/-! ### Kinds -/
structure Kd (α : Type) where
  sz : Nat
  pos : 0 < sz
  K : World → List Nat → α → List Value → Prop
  O : World → List Nat → α → List Value → Prop
  len : ∀ {w F x cs}, K w F x cs → cs.length = sz
  one : ∀ {w F x cs}, K w F x cs → ∀ u, u ∈ cs → u.oneCell' = true
  own : ∀ {w F x cs}, O w F x cs → K w F x cs
  mvK : ∀ {w w' : World} {F x cs}, (∀ k, k ∈ F → w'.heap[k]? = w.heap[k]?) → K w F x cs → K w' F x cs
  mvO : ∀ {w w' : World} {F x cs}, (∀ k, k ∈ F → w'.heap[k]? = w.heap[k]?) → O w F x cs → O w' F x cs
  lt : ∀ {w F x cs}, K w F x cs → ∀ k, k ∈ F → k < w.heap.size

namespace Kd
/-- A value whose cells hold all of it. -/
def flat {α : Type} (sz : Nat) (enc : α → List Value) (hp : 0 < sz) (hl : ∀ x, (enc x).length = sz) (h1 : ∀ x u, u ∈ enc x → u.oneCell' = true) : Kd α where
  sz := sz
  pos := hp
  K := fun _ F x cs => cs = enc x ∧ F = []
  O := fun _ F x cs => cs = enc x ∧ F = []
  len := fun h => by rw [h.1]; exact hl _
  one := fun h u hu => h1 _ u (h.1 ▸ hu)
  own := fun h => h
  mvK := fun _ h => h
  mvO := fun _ h => h
  lt := fun h k hk => by rw [h.2] at hk; cases hk
def one1 {α : Type} (enc : α → Value) (h1 : ∀ x, (enc x).oneCell' = true) : Kd α := flat 1 (fun x => [enc x]) Nat.one_pos (fun _ => rfl) (fun x u hu => by rw [List.mem_singleton.1 hu]; exact h1 x)
def int (k : IntKind) : Kd Int := one1 (Value.int k) (fun _ => rfl)
def bool : Kd Bool := one1 Value.bool (fun _ => rfl)
def str : Kd ByteArray := one1 Value.string (fun _ => rfl)

variable {α β : Type}
/-- The value v is a slice that reads as xs; F: the blocks. -/
def R (d : Kd α) (w : World) (F : List Nat) (v : Value) (xs : List α) : Prop :=
  ∃ A c G Fs cs, v = .slice A xs.length c ∧ xs.length ≤ c ∧ F = G ++ Fs ∧ (∀ k, k ∈ G → k < w.heap.size) ∧ Els (d.K w) Fs xs cs ∧
    ∀ j u, cs[j]? = some u → ∃ ad, A = some ad ∧ ad.block ∈ G ∧ w.cell? (ad.add j) = some u
/-- The value v is a slice that owns its row of element type e. -/
def W (d : Kd α) (e : TypeId) (w : World) (F : List Nat) (v : Value) (xs : List α) : Prop :=
  ∃ Fs cs, w.ownsRow 0 e d.sz v xs.length cs ∧ F = v.ownBlock.toList ++ Fs ∧ Els (d.O w) Fs xs cs

theorem nil_R (d : Kd α) (w : World) : d.R w [] (.slice none 0 0) [] := ⟨none, 0, [], [], [], rfl, Nat.le_refl _, rfl, (fun _ h => by cases h), ⟨rfl, rfl⟩, (fun j u h => by simp at h)⟩
theorem nil_W (d : Kd α) (e : TypeId) (w : World) : d.W e w [] (.slice none 0 0) [] := ⟨[], [], World.ownsRow_nil w 0 e d.sz, rfl, rfl, rfl⟩

section
variable {d : Kd α} {e : TypeId} {w w' : World} {F : List Nat} {v : Value} {xs : List α}
theorem R.lt (h : d.R w F v xs) : ∀ k, k ∈ F → k < w.heap.size := by
  obtain ⟨A, c, G, Fs, cs, rfl, hc, rfl, hG, he, hr⟩ := h
  intro k hk
  rcases List.mem_append.1 hk with hk | hk
  · exact hG k hk
  · exact he.blocks (p := (· < w.heap.size)) (fun F x c h => d.lt h) k hk
theorem R.mv (h : d.R w F v xs) (hm : ∀ k, k ∈ F → w'.heap[k]? = w.heap[k]?) (hs : w.heap.size ≤ w'.heap.size) : d.R w' F v xs := by
  obtain ⟨A, c, G, Fs, cs, rfl, hc, rfl, hG, he, hr⟩ := h
  refine ⟨A, c, G, Fs, cs, rfl, hc, rfl, fun k hk => Nat.lt_of_lt_of_le (hG k hk) hs, he.imp (fun G' x c hG' hx => d.mvK (fun k hk => hm k (List.mem_append_right _ (hG' k hk))) hx), fun j u hu => ?_⟩
  obtain ⟨ad, e1, e2, e3⟩ := hr j u hu
  refine ⟨ad, e1, e2, ?_⟩
  rw [World.cell?_of_block (w := w) (by rw [add_block]; exact hm _ (List.mem_append_left _ e2))]
  exact e3
theorem W.mv (h : d.W e w F v xs) (hm : ∀ k, k ∈ F → w'.heap[k]? = w.heap[k]?) : d.W e w' F v xs := by
  obtain ⟨Fs, cs, ho, rfl, he⟩ := h
  refine ⟨Fs, cs, ?_, rfl, he.imp (fun G' x c hG' hx => d.mvO (fun k hk => hm k (List.mem_append_right _ (hG' k hk))) hx)⟩
  obtain ⟨h1, h2⟩ := ho
  refine ⟨h1, ?_⟩
  rcases h2 with h2 | ⟨g, cap, cur, rfl, hg, hh, r⟩
  · exact .inl h2
  · exact .inr ⟨g, cap, cur, rfl, hg, (hm g (by simp [Value.ownBlock])).trans hh, r⟩
theorem R.t (h : d.R w F v xs) (hc : Ch [] w w') : d.R w' F v xs := h.mv (fun k hk => hc.blk k (h.lt k hk) (by simp)) hc.size
theorem W.R (h : d.W e w F v xs) : d.R w F v xs := by
  obtain ⟨Fs, cs, ho, rfl, he⟩ := h
  have hlen : cs.length = xs.length * d.sz := ho.1
  rcases ho.2 with ⟨rfl, hn⟩ | ⟨g, cap, cur, rfl, _, hh, hnc, hcm, hcs, htake⟩
  · have hx : xs = [] := List.eq_nil_of_length_eq_zero hn
    subst hx
    obtain ⟨rfl, rfl⟩ := he
    exact nil_R d w
  · refine ⟨_, cap, [g], Fs, cs, rfl, hnc, by simp [Value.ownBlock], ?_, he.imp (fun _ _ _ _ h => d.own h), fun j u hu => ⟨_, rfl, by simp, ?_⟩⟩
    · intro k hk
      obtain rfl := List.mem_singleton.1 hk
      exact (Array.getElem?_eq_some_iff.1 hh).1
    · rw [add_mk, Nat.zero_add, cell_of_row w g j cur e (0, 0) hh]
      rw [← htake, List.getElem?_take] at hu
      split at hu
      · simpa using hu
      · cases hu
theorem W.lt (h : d.W e w F v xs) : ∀ k, k ∈ F → k < w.heap.size := h.R.lt
theorem W.t (h : d.W e w F v xs) (hc : Ch [] w w') : d.W e w' F v xs := h.mv (fun k hk => hc.blk k (h.lt k hk) (by simp))
/-- Behind a change of blocks that are not ours. -/
theorem R.tt {G : List Nat} (h : d.R w F v xs) (hc : Ch G w w') (hG : ∀ k, k ∈ F → k ∉ G) : d.R w' F v xs := h.mv (fun k hk => hc.blk k (h.lt k hk) (hG k hk)) hc.size
theorem W.tt {G : List Nat} (h : d.W e w F v xs) (hc : Ch G w w') (hG : ∀ k, k ∈ F → k ∉ G) : d.W e w' F v xs := h.mv (fun k hk => hc.blk k (h.lt k hk) (hG k hk))
theorem R.shape (h : d.R w F v xs) : ∃ A c, v = .slice A xs.length c ∧ xs.length ≤ c := by
  obtain ⟨A, c, G, Fs, cs, rfl, hc, _⟩ := h
  exact ⟨A, c, rfl, hc⟩
theorem R.oneCell (h : d.R w F v xs) : v.oneCell' = true := by
  obtain ⟨A, c, rfl, _⟩ := h.shape
  rfl
/-- An element's cells. -/
theorem R.get (h : d.R w F v xs) (i : Nat) (hi : i < xs.length) : ∃ c ad Fi ci, v = .slice (some ad) xs.length c ∧ (∀ k, k ∈ Fi → k ∈ F) ∧ d.K w Fi xs[i] ci ∧ ∀ j u, ci[j]? = some u → w.cell? (ad.add (i * d.sz + j)) = some u := by
  obtain ⟨A, c, G, Fs, cs, rfl, hc, rfl, hG, he, hr⟩ := h
  obtain ⟨Fa, Fi, Fb, ca, ci, cb, rfl, rfl, hca, hci, _, hK, _⟩ := he.at (fun _ _ _ h => d.len h) i hi
  have key : ∀ j u, ci[j]? = some u → ∃ ad, A = some ad ∧ w.cell? (ad.add (i * d.sz + j)) = some u := by
    intro j u hu
    have hj : j < ci.length := (List.getElem?_eq_some_iff.1 hu).1
    obtain ⟨ad, e1, _, e3⟩ := hr (i * d.sz + j) u (by rw [List.getElem?_append_right (by omega), hca, Nat.add_sub_cancel_left, List.getElem?_append_left hj]; exact hu)
    exact ⟨ad, e1, e3⟩
  have hA : ∃ ad, A = some ad := by
    have hz : 0 < ci.length := by rw [hci]; exact d.pos
    obtain ⟨ad, e1, _⟩ := key 0 ci[0] (List.getElem?_eq_getElem hz)
    exact ⟨ad, e1⟩
  obtain ⟨ad, rfl⟩ := hA
  refine ⟨c, ad, Fi, ci, rfl, fun k hk => ?_, hK, fun j u hu => ?_⟩
  · simp [hk]
  · obtain ⟨ad', e1, e3⟩ := key j u hu
    injection e1 with e1
    subst e1
    exact e3
end

/-- Slices as elements. -/
def sl {α : Type} (e : TypeId) (d : Kd α) : Kd (List α) where
  sz := 1
  pos := Nat.one_pos
  K := fun w F xs cs => ∃ v, cs = [v] ∧ d.R w F v xs
  O := fun w F xs cs => ∃ v, cs = [v] ∧ d.W e w F v xs
  len := by rintro w F x cs ⟨v, rfl, _⟩; rfl
  one := by rintro w F x cs ⟨v, rfl, h⟩ u hu; rw [List.mem_singleton.1 hu]; exact h.oneCell
  own := by rintro w F x cs ⟨v, rfl, h⟩; exact ⟨v, rfl, h.R⟩
  mvK := by
    rintro w w' F x cs hm ⟨v, rfl, h⟩
    refine ⟨v, rfl, ?_⟩
    obtain ⟨A, c, G, Fs, cs, rfl, hc, rfl, hG, he, hr⟩ := h
    refine ⟨A, c, G, Fs, cs, rfl, hc, rfl, fun k hk => ?_, he.imp (fun G' x c hG' hx => d.mvK (fun k hk => hm k (List.mem_append_right _ (hG' k hk))) hx), fun j u hu => ?_⟩
    · have h1 := hm k (List.mem_append_left _ hk)
      have h2 := hG k hk
      rw [Array.getElem?_eq_getElem h2] at h1
      exact (Array.getElem?_eq_some_iff.1 h1).1
    · obtain ⟨ad, e1, e2, e3⟩ := hr j u hu
      refine ⟨ad, e1, e2, ?_⟩
      rw [World.cell?_of_block (w := w) (by rw [add_block]; exact hm _ (List.mem_append_left _ e2))]
      exact e3
  mvO := by rintro w w' F x cs hm ⟨v, rfl, h⟩; exact ⟨v, rfl, h.mv hm⟩
  lt := by rintro w F x cs ⟨v, rfl, h⟩; exact h.lt
/-- One behind the other. -/
def prod {α β : Type} (a : Kd α) (b : Kd β) : Kd (α × β) where
  sz := a.sz + b.sz
  pos := Nat.add_pos_left a.pos _
  K := fun w F x cs => ∃ F1 F2 c1 c2, F = F1 ++ F2 ∧ cs = c1 ++ c2 ∧ a.K w F1 x.1 c1 ∧ b.K w F2 x.2 c2
  O := fun w F x cs => ∃ F1 F2 c1 c2, F = F1 ++ F2 ∧ cs = c1 ++ c2 ∧ a.O w F1 x.1 c1 ∧ b.O w F2 x.2 c2
  len := by rintro w F x cs ⟨F1, F2, c1, c2, rfl, rfl, h1, h2⟩; rw [List.length_append, a.len h1, b.len h2]
  one := by
    rintro w F x cs ⟨F1, F2, c1, c2, rfl, rfl, h1, h2⟩ u hu
    rcases List.mem_append.1 hu with hu | hu
    · exact a.one h1 u hu
    · exact b.one h2 u hu
  own := by rintro w F x cs ⟨F1, F2, c1, c2, rfl, rfl, h1, h2⟩; exact ⟨F1, F2, c1, c2, rfl, rfl, a.own h1, b.own h2⟩
  mvK := by rintro w w' F x cs hm ⟨F1, F2, c1, c2, rfl, rfl, h1, h2⟩; exact ⟨F1, F2, c1, c2, rfl, rfl, a.mvK (fun k hk => hm k (List.mem_append_left _ hk)) h1, b.mvK (fun k hk => hm k (List.mem_append_right _ hk)) h2⟩
  mvO := by rintro w w' F x cs hm ⟨F1, F2, c1, c2, rfl, rfl, h1, h2⟩; exact ⟨F1, F2, c1, c2, rfl, rfl, a.mvO (fun k hk => hm k (List.mem_append_left _ hk)) h1, b.mvO (fun k hk => hm k (List.mem_append_right _ hk)) h2⟩
  lt := by
    rintro w F x cs ⟨F1, F2, c1, c2, rfl, rfl, h1, h2⟩ k hk
    rcases List.mem_append.1 hk with hk | hk
    · exact a.lt h1 k hk
    · exact b.lt h2 k hk
end Kd
end Go.Eng
