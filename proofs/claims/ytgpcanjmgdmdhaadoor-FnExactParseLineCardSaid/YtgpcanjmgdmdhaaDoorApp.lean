/-
  THE ENGINE's LAWS ON append, make AND STORES INTO ROWS, OF MY OWN: over any program. No condition.
-/
import Derived.Test.YtgpcanjmgdmdhaaDoorOps
import Derived.Maps.AppendAt
namespace Go.Eng
set_option linter.unusedVariables false
set_option linter.unusedSimpArgs false

theorem nodup_app {α : Type} {a b : List α} : (a ++ b).Nodup ↔ a.Nodup ∧ b.Nodup ∧ ∀ x, x ∈ a → x ∉ b := by
  rw [List.nodup_append]
  constructor
  · rintro ⟨h1, h2, h3⟩
    exact ⟨h1, h2, fun x hx hb => h3 x hx x hb rfl⟩
  · rintro ⟨h1, h2, h3⟩
    exact ⟨h1, h2, fun x hx y hy e => h3 x hx (e ▸ hy)⟩
theorem own_toList {v : Value} {k : Nat} : k ∈ v.ownBlock.toList ↔ v.ownBlock = some k := by
  cases v.ownBlock <;> simp [eq_comm]

section
variable {P : Program} {n : Nat} {k : List It} {Qf : Exit → Act → World → Prop} {ρ : Fr} {ds : List Deferred} {w : World}
variable {ops : Array Oper} {rest : List Oper} {d : Option Nat} {ty : TypeId} {pos : String} {af : Array Edge}

/-- What an append leaves: the row as it now stands, its blocks out of the elder ones or new. -/
structure Apd {α : Type} (dk : Kd α) (e : TypeId) (w w' : World) (F G F' : List Nat) (v v' : Value) (xs : List α) : Prop where
  W : dk.W e w' F' v' xs
  nd : F'.Nodup
  sub : ∀ k, k ∈ F' → k ∈ F ∨ k ∈ G ∨ w.heap.size ≤ k
  ch : Ch v.ownBlock.toList w w'

theorem W_own {α : Type} {dk : Kd α} {e : TypeId} {w : World} {F : List Nat} {v : Value} {xs : List α} (h : dk.W e w F v xs) : ∀ k, k ∈ v.ownBlock.toList → k ∈ F := by
  obtain ⟨Fs, cs, _, rfl, _⟩ := h
  exact fun k hk => List.mem_append_left _ hk

theorem run_ap {α : Type} {dk : Kd α} {t e : TypeId} {z : Value} {by_ : Nat} (ht : P.underlying t = some (.slice e)) (hi : TI P e z dk.sz by_) (hz : z.cells.size = dk.sz) {F G : List Nat} {v : Value} {xs ys : List α} (hW : dk.W e w F v xs)
    (hn : (F ++ G).Nodup) (a : Addr) (c : Nat) (news : List Value) (hE : Els (dk.O w) G ys news) (hc : ∀ j u, news[j]? = some u → w.cell? (a.add j) = some u) (hb : (xs.length + ys.length) * by_ ≤ 140737488355328) (hb' : xs.length + ys.length ≤ 140737488355328) :
    ∃ v' w' F', (Builtin.append_ #[t, t] ty #[v, .slice (some a) ys.length c]).run P w = .ok v' w' ∧ Apd dk e w w' F G F' v v' (xs ++ ys) := by
  obtain ⟨i0, hi0, hz0, hsz, hby⟩ := hi.size
  have hW' := hW
  obtain ⟨Fs, cs, ho, rfl, he⟩ := hW
  have hl : news.length = ys.length * dk.sz := hE.length (fun _ _ _ h => dk.len (dk.own h))
  have h1 : ∀ u, u ∈ news → u.oneCell' = true := hE.all (fun _ _ _ h => dk.one (dk.own h))
  obtain ⟨v', w', hr, h2, h3, _, h5⟩ := run_append_own_at (P := P) w 0 t ty e i0 z dk.sz by_ ht hi0 hz0 hsz hby hz dk.pos v xs.length cs ho a ys.length c news hl hc h1 (by simp only [maxLen]; omega) hb (Nat.zero_le _)
  have hch : Ch v.ownBlock.toList w w' := ⟨h3.os, h3.tape, h3.output, h3.size, fun k hk hnk => h3.block k hk (fun e => hnk (own_toList.2 e.symm))⟩
  have hn' := nodup_app.1 hn
  have hn2 := nodup_app.1 hn'.1
  have hFlt : ∀ k, k ∈ Fs → k < w.heap.size := fun k hk => hW'.lt k (List.mem_append_right _ hk)
  have hGlt : ∀ k, k ∈ G → k < w.heap.size := hE.blocks (p := (· < w.heap.size)) (fun _ _ _ h => dk.lt (dk.own h))
  have hFne : ∀ k, k ∈ Fs → k ∉ v.ownBlock.toList := fun k hk ho' => hn2.2.2 k ho' hk
  have hGne : ∀ k, k ∈ G → k ∉ v.ownBlock.toList := fun k hk ho' => hn'.2.2 k (List.mem_append_left _ ho') hk
  refine ⟨v', w', v'.ownBlock.toList ++ (Fs ++ G), hr, ⟨⟨Fs ++ G, cs ++ news, by simpa using h2, rfl, ?_⟩, ?_, ?_, hch⟩⟩
  · refine Els.app (R := dk.O w') (ys := ys) ?_ ?_
    · exact hE.imp (fun G' x c hG' hx => dk.mvO (fun k hk => hch.blk k (hGlt k (hG' k hk)) (hGne k (hG' k hk))) hx)
    · exact he.imp (fun G' x c hG' hx => dk.mvO (fun k hk => hch.blk k (hFlt k (hG' k hk)) (hFne k (hG' k hk))) hx)
  · refine nodup_app.2 ⟨by cases v'.ownBlock <;> simp, nodup_app.2 ⟨hn2.2.1, hn'.2.1, fun x hx hg => hn'.2.2 x (List.mem_append_right _ hx) hg⟩, fun x hx hfg => ?_⟩
    rcases h5 with h5 | h5
    · rw [h5] at hx
      rcases List.mem_append.1 hfg with hf | hg
      · exact hFne x hf hx
      · exact hGne x hg hx
    · rw [h5] at hx
      have hx' : x = w.heap.size := by simpa using hx
      rcases List.mem_append.1 hfg with hf | hg
      · have := hFlt x hf; omega
      · have := hGlt x hg; omega
  · intro k hk
    rcases List.mem_append.1 hk with hk | hk
    · rcases h5 with h5 | h5
      · rw [h5] at hk; exact .inl (List.mem_append_left _ hk)
      · rw [h5] at hk
        have : k = w.heap.size := by simpa using hk
        exact .inr (.inr (by omega))
    · rcases List.mem_append.1 hk with hk | hk
      · exact .inl (List.mem_append_right _ hk)
      · exact .inr (.inl hk)

/-- 's = append(s, x)': the one-cell block of x, then the append. -/
theorem ap1 {α : Type} {dk : Kd α} {t e : TypeId} {z : Value} {by_ : Nat} {s x : Operand} {F G : List Nat} {v vx : Value} {xs : List α} {a : α} {d1 : Nat} {d2 : Option Nat} {ty2 : TypeId} {pos2 : String} {af2 : Array Edge}
    (ht : P.underlying t = some (.slice e)) (hi : TI P e z dk.sz by_) (hz : z.cells.size = dk.sz) (hs : ∀ p, ev (upd ρ d1 p) s = v) (hx : ev ρ x = vx) (hW : dk.W e w F v xs) (hE : dk.O w G a vx.cells.toList) (hn : (F ++ G).Nodup) (hb : (xs.length + 1) * by_ ≤ 140737488355328 ∧ xs.length + 1 ≤ 140737488355328) (hs0 : Nat.ble dk.sz 1000 = true)
    (h : ∀ p v' w' F', Apd dk e w w' F G F' v v' (xs ++ [a]) → L P n ops rest k Qf (updo (upd ρ d1 p) d2 v') ds w') :
    L P n ops (⟨some d1, .buildSlice t 1 #[(0, x)], ty, pos, af, none⟩ :: ⟨d2, .call ⟨.builtin .append, #[s, .tmp d1], #[t, t]⟩, ty2, pos2, af2, none⟩ :: rest) k Qf ρ ds w := by
  have hlx : vx.cells.size = dk.sz := by have := dk.len (dk.own hE); simpa using this
  have hrun := run_bs1 (P := P) ht hi hz dk.pos hlx (Nat.le_of_ble_eq_true hs0) w
  refine opv (v := .slice (some ⟨w.heap.size, 0, none⟩) 1 1) (w' := w.alloc (.cells vx.cells e)) rfl (by simp only [execOp, Array.map, List.map_toArray, List.map_cons, List.map_nil, hx, Sem.run_bind, Sem.run_pure] <;> simp [hx, hrun]) ?_
  have hc0 := ch_alloc w (.cells vx.cells e)
  have hB := alloc_B (cs := vx.cells) (T := e) w
  obtain ⟨v', w', F', hr, hA⟩ := run_ap (P := P) (ty := ty2) (dk := dk) (w := w.alloc (.cells vx.cells e)) ht hi hz (hW.t hc0) (G := G) (ys := [a]) hn ⟨w.heap.size, 0, none⟩ 1 vx.cells.toList ⟨G, [], vx.cells.toList, [], by simp, by simp, dk.mvO (fun k hk => hc0.blk k (dk.lt (dk.own hE) k hk) (by simp)) hE, rfl, rfl⟩
    (fun j u hu => by rw [add_mk, hB.cell, Nat.zero_add]; exact hu) hb.1 hb.2
  refine opv (v := v') (w' := w') rfl ?_ (h _ v' w' F' ⟨hA.W, hA.nd, fun k hk => ?_, ?_⟩)
  · have h1 : ev (updo ρ (some d1) (.slice (some ⟨w.heap.size, 0, none⟩) 1 1)) s = v := hs _
    have h2 : ev (updo ρ (some d1) (.slice (some ⟨w.heap.size, 0, none⟩) 1 1)) (.tmp d1) = .slice (some ⟨w.heap.size, 0, none⟩) 1 1 := by simp [ev, updo, upd]
    simp only [List.length_singleton] at hr
    simp [execOp, resolve, invoke, builtin, h1, h2, hr]
  · rcases hA.sub k hk with h | h | h
    · exact .inl h
    · exact .inr (.inl h)
    · exact .inr (.inr (by simp at h; omega))
  · exact hc0.mono (fun k hk => by cases hk) |>.trans hA.ch (fun k hk _ => hk)

/-! ### Stores into a row of one's own; make -/
theorem Kd.W.split {α : Type} {dk : Kd α} {e : TypeId} {F : List Nat} {v : Value} {xs : List α} (h : dk.W e w F v xs) (j : Nat) (hj : j < xs.length) : ∃ g cap cur Fa Fi Fb ca ci cb, v = .slice (some ⟨g, 0, none⟩) xs.length cap ∧ w.heap[g]? = some (.cells cur e (0, 0)) ∧ F = g :: (Fa ++ (Fi ++ Fb)) ∧
    cur.toList.take (xs.length * dk.sz) = ca ++ (ci ++ cb) ∧ ca.length = j * dk.sz ∧ ci.length = dk.sz ∧ Els (dk.O w) Fa (xs.take j) ca ∧ dk.O w Fi xs[j] ci ∧ Els (dk.O w) Fb (xs.drop (j + 1)) cb ∧ xs.length ≤ cap ∧ cap ≤ maxLen ∧ cur.size = cap * dk.sz := by
  obtain ⟨Fs, cs, ho, rfl, he⟩ := h
  rcases ho.2 with ⟨rfl, hn⟩ | ⟨g, cap, cur, rfl, _, hh, hnc, hcm, hcs, htake⟩
  · omega
  · obtain ⟨Fa, Fi, Fb, ca, ci, cb, rfl, rfl, hca, hci, h1, h2, h3⟩ := he.at (fun _ _ _ h => dk.len (dk.own h)) j hj
    exact ⟨g, cap, cur, Fa, Fi, Fb, ca, ci, cb, rfl, hh, by simp [Value.ownBlock], htake, hca, hci, h1, h2, h3, hnc, hcm, hcs⟩
theorem row_put {cur : List Value} {m a n' : Nat} {ca ci cb ci' : List Value} (ht : cur.take m = ca ++ (ci ++ cb)) (hm : m ≤ cur.length) (hl : ci'.length = ci.length) (ha : ca.length = a) (hn : ci.length = n') :
    (cur.take a ++ ci' ++ cur.drop (a + n')).take m = ca ++ (ci' ++ cb) ∧ (cur.take a ++ ci' ++ cur.drop (a + n')).length = cur.length := by
  have hlen : m = ca.length + (ci.length + cb.length) := by
    have := congrArg List.length ht
    simp only [List.length_take, List.length_append] at this
    omega
  have hcur : cur = ca ++ (ci ++ cb) ++ cur.drop m := by rw [← ht, List.take_append_drop]
  subst ha hn
  generalize cur.drop m = tl at hcur
  subst hcur
  subst hlen
  constructor
  · have h1 : (ca ++ (ci ++ cb) ++ tl).take ca.length = ca := by simp [List.append_assoc]
    have h2 : (ca ++ (ci ++ cb) ++ tl).drop (ca.length + ci.length) = cb ++ tl := by
      rw [← List.drop_drop]
      simp [List.append_assoc]
    rw [h1, h2]
    have : ca ++ ci' ++ (cb ++ tl) = (ca ++ (ci' ++ cb)) ++ tl := by simp [List.append_assoc]
    rw [this, ← hl]
    have hq : ca.length + (ci'.length + cb.length) = (ca ++ (ci' ++ cb)).length := by simp
    rw [hq, List.take_left]
  · simp only [List.length_append, List.length_take, List.length_drop]
    omega
/-- Element j is written anew. -/
theorem Kd.W.put {α : Type} {dk : Kd α} {e : TypeId} {F G : List Nat} {v : Value} {xs : List α} (h : dk.W e w F v xs) (j : Nat) (hj : j < xs.length) {y : α} {ci' : List Value} (hy : dk.O w G y ci') (hn : (F ++ G).Nodup) :
    ∃ g cap cur F', v = .slice (some ⟨g, 0, none⟩) xs.length cap ∧ w.heap[g]? = some (.cells cur e (0, 0)) ∧ j * dk.sz + dk.sz ≤ cur.size ∧ ci'.length = dk.sz ∧
      Apd dk e w (w.setRow g (cur.toList.take (j * dk.sz) ++ ci' ++ cur.toList.drop (j * dk.sz + ci'.length)).toArray) F G F' v v (xs.set j y) := by
  have hlt := h.lt
  obtain ⟨g, cap, cur, Fa, Fi, Fb, ca, ci, cb, rfl, hh, rfl, ht, hca, hci, ha, hi, hb, hnc, hcm, hcs⟩ := h.split j hj
  have hci' : ci'.length = dk.sz := dk.len (dk.own hy)
  have hsz : xs.length * dk.sz ≤ cur.size := by rw [hcs]; exact Nat.mul_le_mul_right _ hnc
  have hjs : j * dk.sz + dk.sz ≤ cur.size := by
    have : (j + 1) * dk.sz ≤ xs.length * dk.sz := Nat.mul_le_mul_right _ hj
    rw [Nat.add_mul, Nat.one_mul] at this
    omega
  obtain ⟨r1, r2⟩ := row_put (ci' := ci') ht (by simpa using hsz) (by rw [hci', hci]) hca hci
  have hn' := nodup_app.1 hn
  have hnd := List.nodup_cons.1 hn'.1
  have hnd2 := nodup_app.1 hnd.2
  have hnd3 := nodup_app.1 hnd2.2.1
  have hgG : g ∉ G := fun hg => hn'.2.2 g (by simp) hg
  have hch := ch_setRow w g (cur.toList.take (j * dk.sz) ++ ci' ++ cur.toList.drop (j * dk.sz + ci'.length)).toArray
  have hmv : ∀ k, k ∈ Fa ++ (Fi ++ Fb) ∨ k ∈ G → (w.setRow g (cur.toList.take (j * dk.sz) ++ ci' ++ cur.toList.drop (j * dk.sz + ci'.length)).toArray).heap[k]? = w.heap[k]? := by
    intro k hk
    refine hch.blk k ?_ ?_
    · rcases hk with hk | hk
      · exact hlt k (List.mem_cons_of_mem _ hk)
      · exact dk.lt (dk.own hy) k hk
    · intro hg
      obtain rfl := List.mem_singleton.1 hg
      rcases hk with hk | hk
      · exact hnd.1 hk
      · exact hgG hk
  refine ⟨g, cap, cur, g :: (Fa ++ (G ++ Fb)), rfl, hh, hjs, hci', ⟨?_, ?_, ?_, ?_⟩⟩
  · refine ⟨Fa ++ (G ++ Fb), ca ++ (ci' ++ cb), ⟨?_, .inr ⟨g, cap, _, by simp, Nat.zero_le _, setRow_heap w g cur _ e _ hh, by simpa using hnc, hcm, ?_, ?_⟩⟩, by simp [Value.ownBlock], ?_⟩
    · have hl1 := ha.length (sz := dk.sz) (fun _ _ _ h => dk.len (dk.own h))
      have hl2 := hb.length (sz := dk.sz) (fun _ _ _ h => dk.len (dk.own h))
      have hl3 : (cur.toList.take (xs.length * dk.sz)).length = xs.length * dk.sz := by rw [List.length_take]; simp; omega
      rw [ht] at hl3
      simp only [List.length_append, List.length_set] at hl3 ⊢
      omega
    · rw [hci'] at *
      have := r2
      simp only [List.size_toArray]
      rw [this]; simpa using hcs
    · rw [hci', List.toList_toArray, List.length_set]
      exact r1
    · exact Els.put (R := dk.O _) hj (ha.imp (fun G' x c hG' hx => dk.mvO (fun k hk => hmv k (.inl (List.mem_append_left _ (hG' k hk)))) hx)) (dk.mvO (fun k hk => hmv k (.inr hk)) hy)
        (hb.imp (fun G' x c hG' hx => dk.mvO (fun k hk => hmv k (.inl (List.mem_append_right _ (List.mem_append_right _ (hG' k hk))))) hx))
  · refine List.nodup_cons.2 ⟨fun hg => ?_, nodup_app.2 ⟨hnd2.1, nodup_app.2 ⟨hn'.2.1, hnd3.2.1, fun x hx hb' => hn'.2.2 x (by simp [hb']) hx⟩, fun x hx hgb => ?_⟩⟩
    · rcases List.mem_append.1 hg with hg | hg
      · exact hnd.1 (List.mem_append_left _ hg)
      · rcases List.mem_append.1 hg with hg | hg
        · exact hgG hg
        · exact hnd.1 (List.mem_append_right _ (List.mem_append_right _ hg))
    · rcases List.mem_append.1 hgb with hg | hg
      · exact hn'.2.2 x (by simp [hx]) hg
      · exact hnd2.2.2 x hx (List.mem_append_right _ hg)
  · intro k hk
    rcases List.mem_cons.1 hk with rfl | hk
    · exact .inl (by simp)
    · rcases List.mem_append.1 hk with hk | hk
      · exact .inl (by simp [hk])
      · rcases List.mem_append.1 hk with hk | hk
        · exact .inr (.inl hk)
        · exact .inl (by simp [hk])
  · simpa [Value.ownBlock] using hch

/-- 'xs[j] = y': the address, then the store. -/
theorem ixs {α : Type} {dk : Kd α} {F G : List Nat} {xs : List α} {v vy : Value} {t e e' : TypeId} {x i y : Operand} {z : Value} {by_ : Nat} {j : Nat} {kd : IntKind} {a : α} {d1 : Nat} {ty2 : TypeId} {pos2 : String} {af2 : Array Edge}
    (ht : P.underlying t = some (.slice e)) (hi : TI P e z dk.sz by_) (hx : ev ρ x = v) (hW : dk.W e' w F v xs) (hj : ev ρ i = .int kd (j : Int)) (hlt : j < xs.length) (hy : ∀ p, ev (upd ρ d1 p) y = vy) (hE : dk.O w G a vy.cells.toList) (hn : (F ++ G).Nodup)
    (h : ∀ p w' F', w'.heap.size = w.heap.size → Apd dk e' w w' F G F' v v (xs.set j a) → L P n ops rest k Qf (upd ρ d1 p) ds w') :
    L P n ops (⟨some d1, .indexAddr t x i, ty, pos, af, none⟩ :: ⟨none, .store e (.tmp d1) y, ty2, pos2, af2, none⟩ :: rest) k Qf ρ ds w := by
  obtain ⟨g, cap, cur, F', rfl, hh, hjs, hcl, hA⟩ := hW.put j hlt hE hn
  obtain ⟨i0, hi0, hz, hsz, _⟩ := hi.size
  refine r (v := .pointer (some ((⟨g, 0, none⟩ : Addr).add (j * dk.sz)))) (ix ht hi hx hj hlt) ?_
  have hr := run_storeCells_at P g (j * dk.sz) e' vy.cells.toList 0 cur w hh (by omega) (dk.one (dk.own hE))
  simp only [Nat.add_zero] at hr
  refine ops_ (w' := w.setRow g (cur.toList.take (j * dk.sz) ++ vy.cells.toList ++ cur.toList.drop (j * dk.sz + vy.cells.toList.length)).toArray) rfl ?_ (h _ _ F' (by simp [World.setRow]) hA)
  have h1 : ev (updo ρ (some d1) (.pointer (some ((⟨g, 0, none⟩ : Addr).add (j * dk.sz))))) y = vy := hy _
  have h2 : ev (updo ρ (some d1) (.pointer (some ((⟨g, 0, none⟩ : Addr).add (j * dk.sz))))) (.tmp d1) = .pointer (some ((⟨g, 0, none⟩ : Addr).add (j * dk.sz))) := by simp [ev, updo, upd]
  have hl' : vy.cells.size = dk.sz := by have := hcl; simpa using this
  rw [add_mk, Nat.zero_add] at h2
  simp only [add_mk, Nat.zero_add] at h1 ⊢
  simp [execOp, Instr.storeAt, Instr.sureAddr, h1, h2, storeVar, sizeOf, typeInfo, hi0, run_program, hsz, hl', hr]

/-- The elements that make lays. -/
theorem els_made {α : Type} {R : List Nat → α → List Value → Prop} {a : α} {c : List Value} (h : R [] a c) (m : Nat) : Els R [] (List.replicate m a) (List.replicate m c).flatten := by
  induction m with
  | zero => exact ⟨rfl, rfl⟩
  | succ m ih => exact ⟨[], [], c, _, rfl, by simp [List.replicate_succ], h, ih⟩
theorem made_flat (z : Array Value) (hz : 0 < z.size) (m : Nat) : (madeCells z (m * z.size)).toList = (List.replicate m z.toList).flatten := by
  induction m with
  | zero => simp [madeCells]
  | succ m ih =>
    rw [List.replicate_succ', List.flatten_append, ← ih]
    apply List.ext_getElem?
    intro i
    simp only [madeCells, Array.toList_map, Array.toList_range, List.getElem?_map, List.flatten_singleton]
    by_cases h1 : i < m * z.size
    · rw [List.getElem?_append_left (by simpa using h1), List.getElem?_map, List.getElem?_range (by rw [Nat.add_mul]; omega), List.getElem?_range h1]
    · rw [List.getElem?_append_right (by simp; omega)]
      by_cases h2 : i < (m + 1) * z.size
      · rw [List.getElem?_range h2]
        rw [Nat.add_mul, Nat.one_mul] at h2
        have : i % z.size = i - m * z.size := by
          have e : i = (i - m * z.size) + z.size * m := by rw [Nat.mul_comm z.size m]; omega
          rw [e, Nat.add_mul_mod_self_left, Nat.mod_eq_of_lt (by omega)]
          rw [Nat.mul_comm z.size m]; omega
        simp only [List.length_map, List.length_range, Option.map_some, this]
        have h3 : i - m * z.size < z.size := by omega
        simp [h3]
      · rw [List.getElem?_eq_none (by simp; omega), List.getElem?_eq_none (by simp; rw [Nat.add_mul] at h2; omega)]
        rfl
theorem mk {α : Type} {dk : Kd α} {t e : TypeId} {x y : Operand} {z : Value} {by_ : Nat} {m : Nat} {kl kc : IntKind} (a : α) (ht : P.underlying t = some (.slice e)) (hi : TI P e z dk.sz by_) (hz : ∀ w, dk.O w [] a z.cells.toList) (hx : ev ρ x = .int kl (m : Int)) (hy : ev ρ y = .int kc (m : Int)) (hb : by_ * m ≤ 281474976710656 ∧ m ≤ 281474976710656)
    (h : ∀ v w' F, dk.W e w' F v (List.replicate m a) → F.Nodup → (∀ k, k ∈ F → w.heap.size ≤ k) → Ch [] w w' → L P n ops rest k Qf (updo ρ d v) ds w') : L P n ops (⟨d, .makeSlice t x y, ty, pos, af, none⟩ :: rest) k Qf ρ ds w := by
  obtain ⟨i0, hi0, hz0, hsz, hby⟩ := hi.size
  obtain ⟨w', hr, ho, hg⟩ := run_make_full (P := P) (w := w) w.heap.size t e i0 z dk.sz ht hi0 hz0 hsz kl kc m (by rw [hby]; exact hb.1) (by simp only [maxLen]; omega) (Nat.le_refl _)
  have hzs : z.cells.size = dk.sz := by have := dk.len (dk.own (hz w)); simpa using this
  refine opv (v := .slice (some ⟨w.heap.size, 0, none⟩) m m) (w' := w') rfl (by simp [execOp, hx, hy, hr]) (h _ w' [w.heap.size] ⟨[], (madeCells z.cells (m * dk.sz)).toList, ?_, by simp [Value.ownBlock], ?_⟩ (by simp) (fun k hk => by rw [List.mem_singleton.1 hk]; exact Nat.le_refl _) ⟨hg.os, hg.tape, hg.output, hg.size, fun k hk _ => hg.block k hk (by simp)⟩)
  · obtain ⟨h1, h2⟩ := ho
    rw [List.length_replicate]
    refine ⟨h1, ?_⟩
    rcases h2 with h2 | ⟨g, cap, cur, hv, hg', r⟩
    · exact .inl h2
    · exact .inr ⟨g, cap, cur, hv, Nat.zero_le _, r⟩
  · rw [← hzs, made_flat z.cells (by rw [hzs]; exact dk.pos)]
    exact els_made (hz w') m
end
end Go.Eng
