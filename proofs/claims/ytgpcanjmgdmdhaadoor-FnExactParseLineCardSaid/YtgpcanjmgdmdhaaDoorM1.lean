/-
  SEVERAL TEXTS OF MY OWN IN ONE: Cut, Dyn. No condition.
-/
import Derived.Test.YtgpcanjmgdmdhaaDoor63
import Derived.Lib.Split
import Derived.Lib.ParseIntBCases
import Derived.Lib.Strings
import Derived.Test.YtgpcanjmgdmdhaaDoorStr
import Derived.Lib.IndexBytes
import Derived.Test.YtgpcanjmgdmdhaaDoorDef
namespace Go.Proofs.YtgpcanjmgdmdhaaDoor
open Go Go.Eng
set_option linter.unusedVariables false
set_option linter.unusedSimpArgs false
def preL (p : List Int) : List (List Int) → List (List Int)
  | [] => [p]
  | f :: fs => (p ++ f) :: fs
/-- A text cut at a byte. -/
def cutL (sep : Int) : List Int → List (List Int)
  | [] => [[]]
  | x :: xs => if x = sep then [] :: cutL sep xs else preL [x] (cutL sep xs)
theorem preL_ne (p : List Int) (c : List (List Int)) : preL p c ≠ [] := by cases c <;> simp [preL]
theorem cutL_ne (sep : Int) (xs : List Int) : cutL sep xs ≠ [] := by
  cases xs with
  | nil => simp [cutL]
  | cons x xs => simp only [cutL]; split
                 · simp
                 · exact preL_ne _ _
theorem preL_nil {c : List (List Int)} (h : c ≠ []) : preL [] c = c := by cases c <;> simp_all [preL]
theorem preL_pre (p q : List Int) (c : List (List Int)) : preL p (preL q c) = preL (p ++ q) c := by cases c <;> simp [preL]
theorem cutL_len (sep : Int) (xs : List Int) : (cutL sep xs).length ≤ xs.length + 1 := by
  induction xs with
  | nil => simp [cutL]
  | cons x xs ih =>
    simp only [cutL]; split
    · simpa using ih
    · cases hc : cutL sep xs with
      | nil => exact absurd hc (cutL_ne _ _)
      | cons f fs => rw [hc] at ih; simp [preL] at ih ⊢; omega
theorem cutL_mem {sep : Int} {xs : List Int} : ∀ f, f ∈ cutL sep xs → f.length ≤ xs.length ∧ ∀ b, b ∈ f → b ∈ xs := by
  induction xs with
  | nil => intro f hf; simp [cutL] at hf; subst hf; simp
  | cons x xs ih =>
    intro f hf
    simp only [cutL] at hf; split at hf
    · rcases List.mem_cons.1 hf with rfl | hf
      · simp
      · have := ih f hf; exact ⟨by simp; omega, fun b hb => List.mem_cons_of_mem _ (this.2 b hb)⟩
    · cases hc : cutL sep xs with
      | nil => exact absurd hc (cutL_ne _ _)
      | cons g gs =>
        rw [hc] at hf
        simp only [preL, List.mem_cons] at hf
        rcases hf with rfl | hf
        · have := ih g (by rw [hc]; simp)
          refine ⟨by simp; omega, fun b hb => ?_⟩
          simp only [List.cons_append, List.nil_append, List.mem_cons] at hb
          rcases hb with rfl | hb
          · simp
          · exact List.mem_cons_of_mem _ (this.2 b hb)
        · have := ih f (by rw [hc]; simp [hf]); exact ⟨by simp; omega, fun b hb => List.mem_cons_of_mem _ (this.2 b hb)⟩
/-- The round of the cutting: what is done, the piece at hand, the rest. -/
theorem cut_step_sep {sep : Int} {xs : List Int} {i fr : Nat} (hi : i < xs.length) (hf : fr ≤ i) (h : xs[i] = sep) :
    preL ((xs.take i).drop fr) (cutL sep (xs.drop i)) = ((xs.take i).drop fr) :: preL ((xs.take (i + 1)).drop (i + 1)) (cutL sep (xs.drop (i + 1))) := by
  have e : (xs.take (i + 1)).drop (i + 1) = [] := List.drop_eq_nil_of_le (by simp; omega)
  rw [e, List.drop_eq_getElem_cons hi, cutL, if_pos h, preL, List.append_nil, preL_nil (cutL_ne _ _)]
theorem cut_step_no {sep : Int} {xs : List Int} {i fr : Nat} (hi : i < xs.length) (hf : fr ≤ i) (h : ¬ xs[i] = sep) :
    preL ((xs.take i).drop fr) (cutL sep (xs.drop i)) = preL ((xs.take (i + 1)).drop fr) (cutL sep (xs.drop (i + 1))) := by
  rw [List.drop_eq_getElem_cons hi, cutL, if_neg h, preL_pre, List.take_succ_eq_append_getElem hi, List.drop_append_of_le_length (by simp; omega)]
theorem cut_last {sep : Int} {xs : List Int} {fr : Nat} : preL ((xs.take xs.length).drop fr) (cutL sep (xs.drop xs.length)) = [xs.drop fr] := by
  rw [List.take_length, List.drop_length]; simp [cutL, preL]
/-! ### numbers -/
def decV (xs : List Int) : Int := xs.foldl (fun v x => v * 10 + (x - 48)) 0
theorem decV_take {xs : List Int} {i : Nat} (h : i < xs.length) : decV (xs.take (i + 1)) = decV (xs.take i) * 10 + (xs[i] - 48) := by
  unfold decV
  rw [List.take_succ_eq_append_getElem h, List.foldl_append]; rfl
def dgs (xs : List Int) : Prop := ∀ x, x ∈ xs → 48 ≤ x ∧ x ≤ 57
instance (xs : List Int) : Decidable (dgs xs) := inferInstanceAs (Decidable (∀ x, x ∈ xs → 48 ≤ x ∧ x ≤ 57))
theorem decV_bd {xs : List Int} (h : dgs xs) : ∀ i, i ≤ xs.length → 0 ≤ decV (xs.take i) ∧ decV (xs.take i) < 10 ^ i := by
  intro i
  induction i with
  | zero => intro _; simp [decV]
  | succ i ih =>
    intro hi
    have h1 := ih (by omega)
    have h2 := h _ (List.getElem_mem (show i < xs.length by omega))
    rw [decV_take (by omega)]
    have e : (10 : Int) ^ (i + 1) = 10 ^ i * 10 := by rw [Int.pow_succ]
    omega
theorem pow10_le {i : Nat} (h : i ≤ 9) : (10 : Int) ^ i ≤ 1000000000 := by
  have : (10 : Nat) ^ i ≤ 10 ^ 9 := Nat.pow_le_pow_right (by omega) h
  have e : ((10 ^ i : Nat) : Int) = (10 : Int) ^ i := by simp
  omega
theorem decV_le {xs : List Int} (h : dgs xs) (hl : xs.length ≤ 9) : 0 ≤ decV xs ∧ decV xs < 1000000000 := by
  have h1 := decV_bd h xs.length (Nat.le_refl _)
  have h2 := pow10_le hl
  rw [List.take_length] at h1
  omega
def numB (xs : List Int) : Int × Bool :=
  if xs.length = 0 ∨ 9 < xs.length ∨ (xs.head? = some 48 ∧ 1 < xs.length) then (0, false)
  else if dgs xs then (decV xs, true) else (0, false)
/-- A field as a number: its value, and whether it is one. -/
def numL : List Int → Int × Bool
  | x :: y :: ys => if x = 45 then (-(numL (y :: ys)).1, (numL (y :: ys)).2 && (!decide (y = 48)) && (!decide (y = 45))) else numB (x :: y :: ys)
  | xs => numB xs
theorem numB_bd (xs : List Int) : -1000000000 ≤ (numB xs).1 ∧ (numB xs).1 ≤ 1000000000 := by
  unfold numB; split
  · simp
  · rename_i h; split
    · rename_i h2; have := decV_le h2 (by omega); simp only; omega
    · simp
theorem numL_bd (xs : List Int) : -1000000000 ≤ (numL xs).1 ∧ (numL xs).1 ≤ 1000000000 := by
  match xs with
  | [] => exact numB_bd _
  | [x] => exact numB_bd _
  | x :: y :: ys =>
    have := numL_bd (y :: ys)
    unfold numL; split
    · simp only; omega
    · exact numB_bd _
theorem numL_neg (y : Int) (ys : List Int) : numL (45 :: y :: ys) = (-(numL (y :: ys)).1, (numL (y :: ys)).2 && (!decide (y = 48)) && (!decide (y = 45))) := by rw [numL, if_pos rfl]
theorem numL_base {xs : List Int} (h : ¬ (1 < xs.length ∧ xs.head? = some 45)) : numL xs = numB xs := by
  match xs with
  | [] => rfl
  | [x] => rfl
  | x :: y :: ys => rw [numL, if_neg (fun e => h ⟨by simp, by simp [e]⟩)]
/-- The digits behind a sign. -/
def trimL (xs : List Int) : List Int := if xs.head? = some 45 then xs.drop 1 else xs
def numI (xs : List Int) : Int × Bool :=
  if (trimL xs).length = 0 ∨ 9 < (trimL xs).length ∨ ((trimL xs).head? = some 48 ∧ xs ≠ [48]) then (0, false)
  else if dgs (trimL xs) then (if xs.head? = some 45 then -decV (trimL xs) else decV (trimL xs), true) else (0, false)
theorem numI_eq (xs : List Int) : (numL xs).2 = (numI xs).2 ∧ ((numI xs).2 = true → (numL xs).1 = (numI xs).1) := by
  match xs with
  | [] => simp [numL, numB, numI, trimL]
  | [x] =>
    by_cases h : x = 45
    · subst h; simp [numL, numB, numI, trimL, dgs]
    · simp [numL, numB, numI, trimL, h]
  | x :: y :: ys =>
    by_cases h : x = 45
    · subst h
      rw [numL_neg]
      have et : trimL (45 :: y :: ys) = y :: ys := by simp [trimL]
      by_cases h5 : y = 45
      · subst h5
        simp [numI, et, dgs]
      · rw [numL_base (xs := y :: ys) (by simp [h5])]
        by_cases h8 : y = 48
        · subst h8; simp [numI, et]
        · by_cases hl : 9 < ys.length + 1
          · simp [numI, et, numB, h5, h8, hl]
          · by_cases hd : dgs (y :: ys)
            · simp [numI, et, numB, h5, h8, hl, hd]
            · simp [numI, et, numB, h5, h8, hl, hd]
    · have et : trimL (x :: y :: ys) = x :: y :: ys := by simp [trimL, h]
      rw [numL_base (by simp [h])]
      by_cases hl : 9 < ys.length + 1 + 1
      · simp [numI, et, numB, h, hl]
      · by_cases h8 : x = 48
        · subst h8; simp [numI, et, numB, h, hl]
        · by_cases hd : dgs (x :: y :: ys)
          · simp [numI, et, numB, h, h8, hl, hd]
          · simp [numI, et, numB, h, h8, hl, hd]
/-! ### the library's cutting -/
def preU (p : List UInt8) : List (List UInt8) → List (List UInt8)
  | [] => [p]
  | f :: fs => (p ++ f) :: fs
def cutU (c : UInt8) : List UInt8 → List (List UInt8)
  | [] => [[]]
  | x :: xs => if x = c then [] :: cutU c xs else preU [x] (cutU c xs)
theorem index_cons (b c : UInt8) (l : List UInt8) : Lib.index (b :: l) [c] = if b = c then 0 else if Lib.index l [c] = -1 then -1 else Lib.index l [c] + 1 := by
  by_cases h : b = c
  · subst h; simp [Lib.index]
  · have hcb : ¬ c = b := fun e => h e.symm
    simp [Lib.index, h, hcb]
theorem split_cut (c : UInt8) : ∀ (l : List UInt8), Lib.splitK [c] 0 (Lib.count l [c]) l = cutU c l ∧ (cutU c l).length = Lib.count l [c] + 1 := by
  intro l
  induction l with
  | nil =>
    have e : Lib.count ([] : List UInt8) [c] = 0 := Lib.count_miss (by simp [Lib.index])
    rw [e]; simp [Lib.splitK, cutU]
  | cons b l ih =>
    by_cases h : b = c
    · subst h
      have hx : Lib.index (b :: l) [b] = ((0 : Nat) : Int) := by rw [index_cons, if_pos rfl]; rfl
      have hc := Lib.count_hit (s := b :: l) (by simp) hx
      simp only [List.length_singleton, Nat.zero_add, List.drop_succ_cons, List.drop_zero] at hc
      rw [hc, Nat.add_comm, Lib.splitK, hx]
      simp [cutU, ih.1, ih.2]
    · have hx := index_cons b c l
      rw [if_neg h] at hx
      by_cases hm : Lib.index l [c] = -1
      · rw [if_pos hm] at hx
        have h0 := Lib.count_miss hx
        have h1 := Lib.count_miss hm
        rw [h1] at ih
        rw [h0]
        simp only [Lib.splitK] at ih ⊢
        rw [cutU, if_neg h, ← ih.1]
        simp [preU]
      · rw [if_neg hm] at hx
        obtain ⟨i, hi⟩ : ∃ i : Nat, Lib.index l [c] = (i : Int) := ⟨(Lib.index l [c]).toNat, by have := Lib.index_ge l [c]; omega⟩
        rw [hi] at hx
        have hx' : Lib.index (b :: l) [c] = ((i + 1 : Nat) : Int) := by rw [hx]; rfl
        have hc := Lib.count_hit (s := b :: l) (by simp) hx'
        have hc2 := Lib.count_hit (s := l) (by simp) hi
        simp only [List.length_singleton, List.drop_succ_cons] at hc hc2
        rw [← hc2] at hc
        rw [hc, cutU, if_neg h, ← ih.1]
        have ih2 := ih.2
        rw [← ih.1] at ih2
        rw [hc2, Nat.add_comm, Lib.splitK, Lib.splitK, hx', hi]
        have e1 : ((((i + 1 : Nat) : Int)) == -1) = false := beq_false_of_ne (by omega)
        have e2 : (((i : Nat) : Int) == -1) = false := beq_false_of_ne (by omega)
        rw [hc2, Nat.add_comm, Lib.splitK, hi] at ih2
        simp only [e2] at ih2
        simp only [e1, e2, Bool.false_eq_true, if_false, preU, Int.toNat_natCast, Nat.add_zero, List.length_cons, List.length_singleton, List.take_succ_cons, List.drop_succ_cons, List.singleton_append] at ih2 ⊢
        exact ⟨rfl, by first | omega | (simp at ih2 ⊢; omega)⟩
def f8 (b : UInt8) : Int := (b.toNat : Int)
theorem cut_map (c : UInt8) (l : List UInt8) : cutL (f8 c) (l.map f8) = (cutU c l).map (List.map f8) := by
  induction l with
  | nil => rfl
  | cons b l ih =>
    have hinj : f8 b = f8 c ↔ b = c := ⟨fun h => by unfold f8 at h; exact UInt8.toNat_inj.1 (by omega), fun h => by rw [h]⟩
    simp only [List.map_cons, cutL, cutU, hinj]
    split
    · simp [ih]
    · rw [ih]; cases cutU c l <;> simp [preL, preU]
theorem mkS_f8 (l : List UInt8) : (mkS (l.map f8)).data.toList = l := by
  rw [mkS_data, List.map_map]
  conv => rhs; rw [← List.map_id l]
  apply List.map_congr_left
  intro b _
  simp [f8]
theorem nums8_f8 (s : ByteArray) : nums8 s = s.data.toList.map f8 := rfl
theorem map_inj_ {α β : Type} {f : α → β} (hf : ∀ a b, f a = f b → a = b) : ∀ {xs ys : List α}, xs.map f = ys.map f → xs = ys := by
  intro xs
  induction xs with
  | nil => intro ys h; cases ys with
    | nil => rfl
    | cons y ys => simp at h
  | cons x xs ih => intro ys h; cases ys with
    | nil => simp at h
    | cons y ys => simp only [List.map_cons, List.cons.injEq] at h; rw [hf _ _ h.1, ih h.2]
theorem splitB_cut (s : ByteArray) : Lib.splitB (⟨#[32]⟩ : ByteArray) 0 (Lib.countB s (⟨#[32]⟩ : ByteArray)) s = (cutL 32 (nums8 s)).map mkS ∧ ((cutL 32 (nums8 s)).map mkS).length = Lib.countB s (⟨#[32]⟩ : ByteArray) + 1 := by
  have h := split_cut 32 s.data.toList
  have hm := cut_map 32 s.data.toList
  rw [show f8 32 = 32 from rfl, ← nums8_f8] at hm
  have e : (Lib.splitB (⟨#[32]⟩ : ByteArray) 0 (Lib.countB s (⟨#[32]⟩ : ByteArray)) s).map (·.data.toList) = ((cutL 32 (nums8 s)).map mkS).map (·.data.toList) := by
    rw [Lib.splitB_data, hm, List.map_map, List.map_map]
    refine h.1.trans ?_
    conv => lhs; rw [← List.map_id (cutU 32 s.data.toList)]
    apply List.map_congr_left
    intro p _
    exact (mkS_f8 p).symm
  refine ⟨map_inj_ (fun a b hab => ba_ext hab) e, ?_⟩
  rw [List.length_map, hm, List.length_map]
  exact h.2
/-! ### the library's numbers -/
theorem fold_num (l : List UInt8) (h : ∀ c, c ∈ l → 48 ≤ c.toNat ∧ c.toNat ≤ 57) (acc : Nat) : ((l.foldl (fun a c => a * 10 + (c.toNat - 48)) acc : Nat) : Int) = (l.map f8).foldl (fun v x => v * 10 + (x - 48)) (acc : Int) := by
  induction l generalizing acc with
  | nil => rfl
  | cons c l ih =>
    simp only [List.foldl_cons, List.map_cons]
    rw [ih (fun x hx => h x (by simp [hx]))]
    have := h c (by simp)
    congr 1
    unfold f8; omega
theorem parseUintM_dg : ∀ (l : List UInt8) (acc k : Nat), (∀ c, c ∈ l → 48 ≤ c.toNat ∧ c.toNat ≤ 57) → acc < 10 ^ k → k + l.length ≤ 9 → Lib.parseUintM (2 ^ 64 - 1) acc l = .ok (l.foldl (fun a c => a * 10 + (c.toNat - 48)) acc) := by
  intro l
  induction l with
  | nil => intros; rfl
  | cons c l ih =>
    intro acc k h ha hk
    have hc := h c (by simp)
    simp only [List.length_cons] at hk
    have hp : (10 : Nat) ^ (k + 1) ≤ 10 ^ 9 := Nat.pow_le_pow_right (by omega) (by omega)
    have hs : (10 : Nat) ^ (k + 1) = 10 ^ k * 10 := Nat.pow_succ ..
    rw [Lib.parseUintM, if_pos hc, if_neg (by omega), if_neg (by omega), ih _ (k + 1) (fun x hx => h x (by simp [hx])) (by omega) (by omega)]
    rfl
theorem dgs_f8 {l : List UInt8} (h : dgs (l.map f8)) : ∀ c, c ∈ l → 48 ≤ c.toNat ∧ c.toNat ≤ 57 := fun c hc => by
  have := h (f8 c) (List.mem_map_of_mem hc)
  unfold f8 at this; omega
theorem parseUintB_dg {l : List UInt8} (hne : l ≠ []) (hl : l.length ≤ 9) (h : dgs (l.map f8)) : ∃ u : Nat, Lib.parseUintB 64 l = .ok u ∧ (u : Int) = decV (l.map f8) ∧ u < 1000000000 := by
  refine ⟨_, by rw [Lib.parseUintB, if_neg hne]; exact parseUintM_dg l 0 0 (dgs_f8 h) (by simp) (by omega), ?_, ?_⟩
  · rw [fold_num _ (dgs_f8 h)]; rfl
  · have h1 := fold_num l (dgs_f8 h) 0
    have h2 := decV_le h (by simpa using hl)
    unfold decV at h2
    simp only [Int.natCast_zero] at h1
    omega
theorem parseInt_num {s : ByteArray} (h : (numI (nums8 s)).2 = true) : Lib.parseIntB 64 s.data.toList = .ok (numI (nums8 s)).1 := by
  have h : ¬ ((trimL (nums8 s)).length = 0 ∨ 9 < (trimL (nums8 s)).length ∨ ((trimL (nums8 s)).head? = some 48 ∧ nums8 s ≠ [48])) ∧ dgs (trimL (nums8 s)) := by
    unfold numI at h; split at h
    · cases h
    · rename_i h1; split at h
      · rename_i h2; exact ⟨h1, h2⟩
      · cases h
  have hv : (numI (nums8 s)).1 = if (nums8 s).head? = some 45 then -decV (trimL (nums8 s)) else decV (trimL (nums8 s)) := by
    unfold numI; rw [if_neg h.1, if_pos h.2]
  rw [hv]
  rw [nums8_f8] at h ⊢
  generalize s.data.toList = l at h ⊢
  cases l with
  | nil => simp [trimL] at h
  | cons c r =>
    by_cases hc : c = 45
    · subst hc
      have et : trimL (List.map f8 (45 :: r)) = r.map f8 := by simp [trimL, f8]
      rw [et] at h ⊢
      obtain ⟨u, h1, h2, h3⟩ := parseUintB_dg (l := r) (by rintro rfl; simp at h) (by have := h.1; simp at this; omega) h.2
      rw [Lib.parseIntB_minus, h1, if_pos (by simp [f8]), ← h2]
      simp only [Lib.signedC]
      rw [if_neg (by omega)]
    · have hn : ¬ f8 c = 45 := fun e => hc (UInt8.toNat_inj.1 (by unfold f8 at e; show c.toNat = 45; omega))
      have et : trimL (List.map f8 (c :: r)) = (c :: r).map f8 := by simp [trimL, hn]
      rw [et] at h ⊢
      obtain ⟨u, h1, h2, h3⟩ := parseUintB_dg (l := c :: r) (by simp) (by have := h.1; simp at this ⊢; omega) h.2
      have hcc := dgs_f8 h.2 c (by simp)
      rw [Lib.parseIntB_plain _ _ _ (by omega) (by omega), h1, if_neg (by simp [hn]), ← h2]
      simp only [Lib.signlessC]
      rw [if_neg (by omega)]
theorem trim_nums (s : ByteArray) : nums8 (⟨(Lib.trimPrefix s.data.toList (⟨#[45]⟩ : ByteArray).data.toList).toArray⟩ : ByteArray) = trimL (nums8 s) := by
  rw [nums8_f8, nums8_f8]
  simp only [List.toList_toArray]
  generalize s.data.toList = l
  cases l with
  | nil => simp [Lib.trimPrefix, Lib.hasPrefix, trimL]
  | cons c r =>
    by_cases hc : c = 45
    · subst hc; simp [Lib.trimPrefix, Lib.hasPrefix, trimL, f8]
    · have hn : ¬ f8 c = 45 := fun e => hc (UInt8.toNat_inj.1 (by unfold f8 at e; show c.toNat = 45; omega))
      have hb : ¬ (45 : UInt8) = c := fun e => hc e.symm
      simp [Lib.trimPrefix, Lib.hasPrefix, trimL, hn, hb]
end Go.Proofs.YtgpcanjmgdmdhaaDoor

namespace Go.Eng
set_option linter.unusedVariables false
set_option linter.unusedSimpArgs false
/-- The answer of a list of pairs: the first that has the key. -/
def lookS : List (ByteArray × Value) → ByteArray → Option Value
  | [], _ => none
  | (a, v) :: m, k => if k = a then some v else lookS m k
def MpS (w : World) (g : Nat) (m : List (ByteArray × Value)) : Prop := ∃ es clock, w.heap[g]? = some (.map es clock) ∧ es.toList.map (fun e => (e.key, e.val)) = m.map (fun p => (Value.string p.1, p.2))
theorem MpS.t {w w' : World} {g : Nat} {m : List (ByteArray × Value)} (c : Ch [] w w') (h : MpS w g m) : MpS w' g m := by
  obtain ⟨es, clock, hb, he⟩ := h
  exact ⟨es, clock, (c.blk g (Array.getElem?_eq_some_iff.1 hb).1 (by simp)).trans hb, he⟩
def rMS (g : Nat) (m : List (ByteArray × Value)) : Rs where
  P w F := F = [g] ∧ MpS w g m
  mv := fun hm h => ⟨h.1, by obtain ⟨es, c, hb, he⟩ := h.2; exact ⟨es, c, (hm g (by rw [h.1]; simp)).trans hb, he⟩⟩
  lt := fun h k hk => by
    rw [h.1] at hk; rw [List.mem_singleton.1 hk]
    obtain ⟨es, c, hb, he⟩ := h.2
    exact (Array.getElem?_eq_some_iff.1 hb).1
theorem findNow_str : ∀ (es : List MapEntry) (m : List (ByteArray × Value)) (k : ByteArray) (i : Nat), es.map (fun e => (e.key, e.val)) = m.map (fun p => (Value.string p.1, p.2)) → (lookS m k = none ∧ Instr.findNow .string (.string k) es i = some none) ∨
    ∃ j v, lookS m k = some v ∧ Instr.findNow .string (.string k) es i = some (some (i + j, v))
  | [], [], k, i, _ => .inl ⟨rfl, rfl⟩
  | [], _ :: _, _, _, h => by simp at h
  | _ :: _, [], _, _, h => by simp at h
  | e :: es, (a, v) :: m, k, i, h => by
    simp only [List.map_cons, List.cons.injEq, Prod.mk.injEq] at h
    obtain ⟨⟨hk, hv⟩, ht⟩ := h
    by_cases hka : k = a
    · subst hka
      have hs : Instr.sameNow .string (.string k) e.key = some true := by rw [hk]; show some (k == k) = _; simp [MapKept.bytes_beq]
      exact .inr ⟨0, v, by simp [lookS], by simp [Instr.findNow, hs, hv]⟩
    · have hs : Instr.sameNow .string (.string k) e.key = some false := by rw [hk]; show some (k == a) = _; congr 1; exact Bool.eq_false_iff.2 (fun q => hka ((MapKept.bytes_beq _ _).1 q))
      rcases findNow_str es m k (i + 1) ht with ⟨h1, h2⟩ | ⟨j, u, h1, h2⟩
      · exact .inl ⟨by simp [lookS, hka, h1], by simp [Instr.findNow, hs, h2]⟩
      · exact .inr ⟨j + 1, u, by simp [lookS, hka, h1], by simp [Instr.findNow, hs, h2]; omega⟩
section
variable {P : Program} {n : Nat} {k : List It} {Qf : Exit → Act → World → Prop} {ρ : Fr} {ds : List Deferred} {w : World} {ops : Array Oper} {rest : List Oper} {d : Option Nat} {ty : TypeId} {pos : String} {af : Array Edge}
def NewMS (w : World) (v : Value) (w' : World) : Prop := ∃ g, g = w.heap.size ∧ v = .map (some g) ∧ MpS w' g [] ∧ Ch [] w w'
theorem xmms {t : TypeId} : Ex P ρ ⟨d, .makeMap t none, ty, pos, af, none⟩ w (NewMS w) := by
  refine ⟨rfl, .map (some w.heap.size), w.alloc (.map #[] 0), ?_, _, rfl, rfl, ⟨#[], 0, heap_alloc_new _ _, rfl⟩, ch_alloc _ _⟩
  simp [execOp, Instr.makeMap]
theorem Hold.newMS {w0 w w' : World} {F0 : List Nat} {Γ : List Rs} {g : Nat} {m : List (ByteArray × Value)} (H : Hold w0 F0 w Γ) (e : g = w.heap.size) (h : MpS w' g m) (c : Ch [] w w') : Hold w0 F0 w' (Γ ++ [rMS g m]) :=
  H.new (r := rMS g m) ⟨rfl, h⟩ (by simp) (fun k hk => by rw [List.mem_singleton.1 hk, e]; exact Nat.le_refl _) c
theorem Hold.mps {w0 w : World} {F0 : List Nat} {Γ : List Rs} {g : Nat} {m : List (ByteArray × Value)} (H : Hold w0 F0 w Γ) (i : Nat) (hi : Γ[i]? = some (rMS g m)) : MpS w g m := let ⟨_, h⟩ := H.res i hi; h.2
theorem Hold.setMS {w0 w w' : World} {F0 : List Nat} {Γ Δ : List Rs} {g : Nat} {f f' : List (ByteArray × Value)} (H : Hold w0 F0 w Γ) (i : Nat) (hi : Γ[i]? = some (rMS g f)) (h : MpS w' g f') (c : Ch [g] w w') (e : Γ.set i (rMS g f') = Δ) : Hold w0 F0 w' Δ := by
  obtain ⟨F, hp, n, s, K⟩ := H.pick i hi
  obtain ⟨rfl, _⟩ := hp
  exact K w' (rMS g f') [g] Δ ⟨rfl, h⟩ (Turn.own (by simp) (fun k hk => hk) c) e
theorem lkps {t kt et : TypeId} {x y : Operand} {g : Nat} {m : List (ByteArray × Value)} {a : ByteArray} {z : Value} {sz by_ : Nat} (ht : P.underlying t = some (.map kt et)) (hk : P.underlying kt = some .string) (hi : TI P et z sz by_) (hx : ev ρ x = .map (some g)) (hy : ev ρ y = .string a) (hM : MpS w g m) :
    Rn P ρ ⟨d, .lookup t x y true, ty, pos, af, none⟩ w (.tuple #[(lookS m a).getD z, .bool (lookS m a).isSome]) := by
  refine ⟨rfl, fun w' c => ?_⟩
  obtain ⟨es, clock, hb, he⟩ := hM.t c
  obtain ⟨i0, hi0, hz, _, _⟩ := info_parts hi
  have hck : (Instr.checkKey es.isEmpty 10000 kt (.string a)).run P w' = .ok () w' := MapKept.run_checkKey (k := .string a) hk (by simp [MapKept.IsKey]) _ 9999
  rcases findNow_str es.toList m a 0 he with ⟨h1, h2⟩ | ⟨j, v, h1, h2⟩
  · simp [execOp, Instr.lookup, hx, hy, run_underlying ht, MapKept.run_getObj_map hb, hck, MapKept.run_findKey hk h2, h1, zeroValue, typeInfo, hi0, hz, run_program]
  · simp [execOp, Instr.lookup, hx, hy, run_underlying ht, MapKept.run_getObj_map hb, hck, MapKept.run_findKey hk h2, h1]
theorem xins {t kt et : TypeId} {x y z : Operand} {g : Nat} {m : List (ByteArray × Value)} {a : ByteArray} {v : Value} (ht : P.underlying t = some (.map kt et)) (hk : P.underlying kt = some .string) (hx : ev ρ x = .map (some g)) (hy : ev ρ y = .string a) (hz : ev ρ z = v) (hM : MpS w g m) (hn : lookS m a = none) :
    Ex0 P ρ ⟨d, .insert t x y z, ty, pos, af, none⟩ w (fun w' => MpS w' g (m ++ [(a, v)]) ∧ Ch [g] w w') := by
  obtain ⟨es, clock, hb, he⟩ := hM
  have hck : (Instr.checkKey false 10000 kt (.string a)).run P w = .ok () w := MapKept.run_checkKey (k := .string a) hk (by simp [MapKept.IsKey]) _ 9999
  have hlt : g < w.heap.size := (Array.getElem?_eq_some_iff.1 hb).1
  rcases findNow_str es.toList m a 0 he with ⟨h1, h2⟩ | ⟨j, u, h1, h2⟩
  · refine ⟨rfl, { w with heap := w.heap.setIfInBounds g (.map (es.push { key := .string a, val := v, born := clock }) (clock + 1)) }, ?_, ⟨_, _, by simp [hlt]; exact ⟨rfl, rfl⟩, by simp [he]⟩, ch_setObj⟩
    simp [execOp, Instr.mapUpdate, hx, hy, hz, run_underlying ht, MapKept.run_getObj_map hb, hck, MapKept.run_findKey hk h2, MapKept.run_setObj_map _ hb]
  · rw [h1] at hn; cases hn
/-- 's[l:]' of a text. -/
theorem ssl {t : TypeId} {x y : Operand} {s : ByteArray} {kd : IntKind} (l : Nat) (ht : P.underlying t = some .string) (hx : ev ρ x = .string s) (hy : ev ρ y = .int kd (l : Int)) (hl : l ≤ s.size) : Rn P ρ ⟨d, .slice t x (some y) none none, ty, pos, af, none⟩ w (.string (mkS ((nums8 s).drop l))) := by
  refine ⟨rfl, fun w' _ => ?_⟩
  have e : s.extract l s.size = mkS ((nums8 s).drop l) := by
    apply ba_ext
    rw [mkS_data, Go.Lib.extract_to_end, nums8, ← List.map_drop, List.map_map]
    conv => lhs; rw [← List.map_id (List.drop _ _)]
    apply List.map_congr_left
    intro b _
    simp
  have h := run_slice_string_l (P := P) (w := w') (t := t) (s := s) ht kd (l : Int) (by omega) (by omega)
  rw [Int.toNat_natCast, e] at h
  simp [execOp, hx, hy, run_sliceAt_string (P := P) (h := ht), h]
theorem inne {x : Operand} {t u : TypeId} {ms : Array (String × TypeId)} (ht : P.underlying t = some (.interface ms)) (hx : ev ρ x = .nilIface) : Rn P ρ ⟨d, .binOp .neq t x (.const .nilIface) u, ty, pos, af, none⟩ w (.bool false) := by
  refine ⟨rfl, fun w' _ => ?_⟩
  have h1 : (Op.equal t .nilIface .nilIface).run P w' = .ok true w' := run_eqIn_nil ht 9999 w'
  have h2 : (eqGuard .neq t x (.const .nilIface) .nilIface .nilIface).run P w' = .ok () w' := by simp [eqGuard]
  have h3 : binOp .neq t .nilIface .nilIface = (do pure (.bool (!(← Op.equal t .nilIface .nilIface)))) := rfl
  simp only [execOp, hx, show ev ρ (.const .nilIface) = .nilIface from rfl, Sem.run_bind, h2, Result.andThen_ok, h3, h1, Sem.run_pure, Bool.not_true]
end
section
variable {P : Program} {n : Nat} {k : List It} {Qf : Exit → Act → World → Prop} {ρ : Fr} {ds : List Deferred} {w : World} {ops : Array Oper} {K : Fr → World → Prop} {Kp : List PanicEntry → World → Prop} {S' : World → Prop} {fuel : Nat} {listed : Array Bool}
/-- A guarded operation that reads, at its time. -/
theorem eurg {i : Nat} {d : Option Nat} {op : Op} {ty : TypeId} {pos : String} {af : Array Edge} {j t : Nat} {b : Bool} {v : Value} (hi : ops[i]? = some ⟨d, op, ty, pos, af, some (j, b)⟩) (hj : (ops[j]?).bind (·.dst) = some t) (ht : ρ t = .bool b) (hn : Nat.blt t n = true) (hr : Rn P ρ ⟨d, op, ty, pos, af, none⟩ w v) (hS : (listed.setIfInBounds i true).all id = true ∨ S' w)
    (h : De P n ops K Kp S' fuel (listed.setIfInBounds i true) (updo ρ d v) ds w) : Ue P n ops K Kp S' fuel listed i ρ ds w := by
  intro hl a ha
  unfold wpOp
  simp only [hi, Region.wanted, yld (ops := ops) ha hj ht hn, vb, beq_self_eq_true, if_true]
  refine .inl ?_
  unfold Oper.wp
  have h2 : (execOp (ev ρ) ⟨d, op, ty, pos, af, some (j, b)⟩).run P w = .ok (.value v) w := hr.2 w (Ch.refl _ _)
  rw [ha.eval, h2]
  exact ⟨hS, fun hcl => h hl hcl hS _ (ha.put d (okl_at hl (by simpa using hi)) v)⟩
end
/-- An element of a row that lies outside what is acted on. -/
theorem R_out {α : Type} {enc : α → Value} {h1 : ∀ x, (enc x).oneCell' = true} {w : World} {F Fd : List Nat} {v : Value} {xs : List α} (hR : (Kd.one1 enc h1).R w F v xs) (x : ∀ k, k ∈ F → k ∉ Fd) (j : Nat) (hlt : j < xs.length) :
    ∃ c ad, v = .slice (some ad) xs.length c ∧ ∀ w', Ch Fd w w' → w'.cell? (ad.add (j * 1)) = some (enc xs[j]) := by
  obtain ⟨c, ad, cs, e, _⟩ := hR.place j hlt
  refine ⟨c, ad, e, fun w' hc => ?_⟩
  obtain ⟨c2, ad2, cs2, e2, hp⟩ := (hR.tt hc x).place j hlt
  have e3 : ad = ad2 := by rw [e] at e2; injection e2 with e2; injection e2
  rw [e3]; exact hp.cell
theorem Ch.bN {w0 w1 w2 : World} {F : List Nat} {g : Nat} {T : TypeId} {cs : List Value} (h : Ch F w1 w2) (s : ∀ k, k ∈ F → k ∈ ([] : List Nat) ∨ w0.heap.size ≤ k) (H : Ch [] w0 w1) (hB : B w0 g T cs) : B w2 g T cs :=
  h.b (H.b0 hB) (fun hk => (s _ hk).elim (fun h => by cases h) (fun h => by have := hB.lt; omega))
section
variable {P : Program} {ρ : Fr} {w : World} {d : Option Nat} {ty : TypeId} {pos : String} {af : Array Edge}
/-- The length of a slice that is written out; the address of its element. -/
theorem lnl {x : Operand} {t e : TypeId} {A : Option Addr} {m c : Nat} (ht : P.underlying t = some (.slice e)) (hx : ev ρ x = .slice A m c) : Rn P ρ ⟨d, .call ⟨.builtin .len, #[x], #[t]⟩, ty, pos, af, none⟩ w (.int .i64 (m : Int)) :=
  ⟨rfl, fun w' _ => by simp [execOp, resolve, invoke, builtin, Builtin.len_, run_underlying ht, hx, goInt]⟩
theorem ixl {t e : TypeId} {x i : Operand} {z : Value} {by_ : Nat} {g o len c : Nat} {kd : IntKind} (j : Nat) (ht : P.underlying t = some (.slice e)) (hi : TI P e z 1 by_) (hx : ev ρ x = .slice (some ⟨g, o, none⟩) len c) (hj : ev ρ i = .int kd (j : Int)) (hlt : j < len) : Rn P ρ ⟨d, .indexAddr t x i, ty, pos, af, none⟩ w (.pointer (some ⟨g, o + j, none⟩)) := by
  have h := ix (d := d) (ty := ty) (pos := pos) (af := af) (w := w) ht hi hx hj hlt
  rwa [add_mk, Nat.mul_one] at h
end
/-- A row that fills its block, as that block. -/
theorem Hold.asblk {α : Type} {dk : Kd α} {w0 w : World} {F0 : List Nat} {Γ Δ : List Rs} {e : TypeId} {g m : Nat} {xs : List α} {cs : List Value} (H : Hold w0 F0 w Γ) (i : Nat) (hi : Γ[i]? = some (rR dk e (.slice (some ⟨g, 0, none⟩) m m) xs)) (hE : ∀ {F cs'}, Els (dk.O w) F xs cs' → F = [] ∧ cs' = cs) (hs : dk.sz = 1) (hl : xs.length = m) (hm : 0 < m) (he : Γ.set i (rB g e cs) = Δ) : Hold w0 F0 w Δ := by
  obtain ⟨F, hW, n, s, K⟩ := H.pick i hi
  have hW : dk.W e w F (.slice (some ⟨g, 0, none⟩) m m) xs := hW
  obtain ⟨Fs, cs', ho, rfl, hEl⟩ := hW
  obtain ⟨rfl, rfl⟩ := hE hEl
  obtain ⟨h1, h2⟩ := ho
  rcases h2 with ⟨h2, _⟩ | ⟨g', cap, cur, hv, _, hh, hnc, _, hcz, htake⟩
  · cases h2
  · injection hv with hv1 hv2 hv3
    injection hv1 with hv1
    injection hv1 with hv1
    subst hv1; subst hv3
    rw [hs, Nat.mul_one, hl] at htake
    rw [hs, Nat.mul_one] at hcz
    rw [List.take_of_length_le (by rw [Array.length_toList, hcz]; exact Nat.le_refl _)] at htake
    refine K w (rB g e cs') [g] Δ ⟨rfl, ?_⟩ (Turn.own (by simp) (fun k hk => by simpa [Value.ownBlock] using hk) (Ch.refl _ _)) he
    show w.heap[g]? = some (.cells cs'.toArray e (0, 0))
    rw [hh, ← htake]
end Go.Eng
