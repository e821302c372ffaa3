/-
  CONTRACTS 61: DecodeInode. No condition.
-/
import Derived.Test.YtgpcanjmgdmdhaaDoor60
namespace Go.Proofs.YtgpcanjmgdmdhaaDoor
open Go Go.Eng
set_option maxRecDepth 100000
set_option maxHeartbeats 4000000
set_option linter.unusedVariables false
set_option linter.unusedSimpArgs false
theorem tw_trim {l : List Int} : ∀ {k : Nat}, (∀ b, b ∈ l.take k → b ≠ 0) → (∀ (j : Nat) (h : j < l.length), k ≤ j → l[j] = 0) → l.takeWhile (fun b => decide (b ≠ 0)) = l.take k := by
  induction l with
  | nil => intro k _ _; simp
  | cons x l ih =>
    intro k h1 h2
    cases k with
    | zero =>
      have := h2 0 (by simp) (Nat.le_refl _)
      simp only [List.getElem_cons_zero] at this
      simp [this]
    | succ k =>
      have hx := h1 x (by simp)
      simp only [List.takeWhile_cons, hx, ne_eq, not_false_eq_true, decide_true, if_true, List.take_succ_cons]
      rw [← ih (k := k) (fun b hb => h1 b (by simp [hb])) (fun j h hj => by have := h2 (j + 1) (by simpa using h) (by omega); simpa using this)]
theorem tw_cut {l : List Int} : ∀ {k : Nat}, k ≤ l.length → (∀ b, b ∈ l.take k → b ≠ 0) → (∀ (h : k < l.length), l[k] = 0) → l.takeWhile (fun b => decide (b ≠ 0)) = l.take k := by
  induction l with
  | nil => intro k _ _ _; simp
  | cons x l ih =>
    intro k h0 h1 h2
    cases k with
    | zero =>
      have := h2 (by simp)
      simp only [List.getElem_cons_zero] at this
      simp [this]
    | succ k =>
      have hx := h1 x (by simp)
      simp only [List.takeWhile_cons, hx, ne_eq, not_false_eq_true, decide_true, if_true, List.take_succ_cons]
      rw [← ih (k := k) (by simpa using h0) (fun b hb => h1 b (by simp [hb])) (fun h => by have := h2 (by simpa using h); simpa using this)]
theorem nameB_ne {b : Int} (h : nameB b) : b ≠ 0 := by unfold nameB at h; omega
abbrev inLs (xs : List Int) : List Int := inL xs ((inZ xs + 63) / 64).toNat
abbrev decI (xs : List Int) : Prop := xs.length = 64 ∧ inoOk (inN xs) (inZ xs) (inLs xs) ∧ encI (inN xs) (inZ xs) (inLs xs) = xs
theorem inZ_nn {xs : List Int} (ok : ok8 xs) : 0 ≤ inZ xs := unbig_nn (ok8_take (ok8_drop ok 16) 2)
/-- The name, trimmed, is the name up to the first zero, if it is one. -/
theorem trim_name {xs : List Int} {k : Nat} (hk : trimmed (xs.take 16) 0 k) (h : ∀ b, b ∈ (xs.take 16).take k → nameB b) : (xs.take 16).take k = inN xs := (tw_trim (fun b hb => nameB_ne (h b hb)) hk.2.1).symm
theorem trim_dec {xs : List Int} {k : Nat} (hk : trimmed (xs.take 16) 0 k) (h : decI xs) : (xs.take 16).take k = inN xs := by
  obtain ⟨hl, ⟨⟨o1, o2, o3⟩, _⟩, he⟩ := h
  generalize inN xs = nm at o1 o2 o3 he
  have e16 : xs.take 16 = nm ++ List.replicate (16 - nm.length) 0 := by
    rw [← he, encI, List.append_assoc, List.take_append_of_le_length (by simp; omega), List.take_of_length_le (by simp; omega)]
  rw [e16] at hk ⊢
  obtain ⟨h1, h2, h3⟩ := hk
  have e : k = nm.length := by
    rcases Nat.lt_trichotomy k nm.length with h | h | h
    · have := h2 k (by simp; omega) (Nat.le_refl _)
      rw [List.getElem_append_left h] at this
      exact absurd this (nameB_ne (o1 _ (List.getElem_mem h)))
    · exact h
    · have := h3 (by omega) (by omega)
      rw [List.getElem_append_right (by omega)] at this
      simp at this
  subst e
  simp
theorem impl_DecodeInode {w : World} {F : List Nat} {v : Value} {xs : List Int} (hx : u8.R w F v xs) (lx : xs.length ≤ 1000000000) (ok : ok8 xs) :
    Ret Tryd.prog 9 #[v] w (fun r w' => ∃ v, r = .agg #[.bool (decide (decI xs)), .string (if decI xs then mkS (inN xs) else ⟨#[]⟩), .int .i64 (if decI xs then inZ xs else 0), v] ∧ Hold w [] w' [rR i64 2 v (if decI xs then inLs xs else [])]) := by
  refine enter Tryd.func9 rfl Tryd.ntmps9 (by rfl) (by rfl) ?_
  have H0 : Hold w [] w [] := Hold.start w
  refine sq (rg (ef (xal ti27) ?_))
  rintro _ w1 ⟨g2, e1, rfl, -, b1, c1⟩
  have H1 : Hold w [] w1 [rB g2 27 ([.bool false, .string ⟨#[]⟩, .int .i64 0, .slice none 0 0])] := Hold.newB H0 e1 b1 c1
  clear H0
  clear e1 b1 c1
  refine re (sq (rg (ef (xal ti25) ?_)))
  rintro _ w2 ⟨g3, e2, rfl, -, b2, c2⟩
  have H2 : Hold w [] w2 [rB g2 27 ([.bool false, .string ⟨#[]⟩, .int .i64 0, .slice none 0 0]), rB g3 25 ([.string ⟨#[]⟩, .int .i64 0, .slice none 0 0])] := Hold.newB H1 e2 b2 c2
  clear H1
  clear e2 b2 c2
  have H3 : Hold w [] w2 [rB g3 25 ([.string ⟨#[]⟩, .int .i64 0, .slice none 0 0]), rB g2 27 ([.bool false, .string ⟨#[]⟩, .int .i64 0, .slice none 0 0])] := Hold.re H2 [1, 0] (by kernel_rfl) (by rfl)
  clear H2
  obtain ⟨F3, hF3, n3, s3, K3⟩ := Hold.front (Γ := [rB g3 25 ([.string ⟨#[]⟩, .int .i64 0, .slice none 0 0])]) (Δ := [rB g2 27 ([.bool false, .string ⟨#[]⟩, .int .i64 0, .slice none 0 0])]) H3
  have S3 : ∀ k, k ∈ F3 → k ∈ ([] : List Nat) ∨ w.heap.size ≤ k := s3
  refine re (sq (rg (r (mv rfl) (r (mf (vs := []) (cs := [.pointer (some ⟨g3, 0, none⟩)]) an (ac rfl an)) (cl go40 ((reading (cap := [.pointer (some ⟨g3, 0, none⟩)]) (A := rB g3 25 [.string ⟨#[]⟩, .int .i64 0, .slice none 0 0]) (Aok := (exR fun s9 : ByteArray => (rF (∃ k, s9 = mkS ((xs.take 16).take k) ∧ trimmed (xs.take 16) 0 k) (rIno g3 s9 (inZ xs) (inL xs ((min (inZ xs) 1408 + 63) / 64).toNat))))) (Abad := rAn g3 25) (okp := 18 ≤ xs.length) (badp := xs.length < 64) (hx.t (Hold.ch H3)) (dis_of0 hx.lt S3) go41 hF3 n3 (fun w1 gs F1 c1 h1 n1 s1 => DecodeInode_1 h1 n1 ((hx.t (Hold.ch H3)).tt c1 (dis_of0 hx.lt S3)) (dis_of (Kd.R.lt (hx.t (Hold.ch H3))) (dis_of0 hx.lt S3) s1) lx ok))) (ac rfl (ac rfl an)) ?_)))))
  rintro r wr (⟨rfl, hok, Hr⟩ | ⟨rfl, hok, Hr⟩)
  · have Hq := Hold.call K3 Hr
    obtain ⟨s9, Hq⟩ := Hold.exe Hq
    obtain ⟨⟨k, rfl, hk⟩, Hq⟩ := Hold.facte Hq
    obtain ⟨vl, Hq⟩ := Hold.exe Hq
    replace Hq := Hold.unpair Hq
    have H4 : Hold w [] wr [rB g3 25 ([.string (mkS ((xs.take 16).take k)), .int .i64 (inZ xs), vl]), rR i64 2 vl (inL xs ((min (inZ xs) 1408 + 63) / 64).toNat), rB g2 27 ([.bool false, .string ⟨#[]⟩, .int .i64 0, .slice none 0 0])] := Hq
    clear H3
    have z0 := inZ_nn ok
    have ok16 := ok8_take (ok8_take ok 16) k
    have hsz : (mkS ((xs.take 16).take k)).size ≤ 9223372036854775807 := by rw [mkS_size]; simp; omega
    have hLl := inL_len xs ((min (inZ xs) 1408 + 63) / 64).toNat
    refine r (sa rfl) (re (sq (sq ?_)))
    refine rde mixed ?_
    intro w4 c4
    have H5 : Hold w [] w4 [rB g3 25 ([.string (mkS ((xs.take 16).take k)), .int .i64 (inZ xs), vl]), rR i64 2 vl (inL xs ((min (inZ xs) 1408 + 63) / 64).toNat), rB g2 27 ([.bool false, .string ⟨#[]⟩, .int .i64 0, .slice none 0 0])] := Hold.t H4 c4
    clear H4
    clear c4
    have H5d0 : Hold w4 [] w4 [] := Hold.start w4
    refine ⟨fun w' => Ch [] w4 w', Ch.refl _ _, ?_⟩
    refine edt 0 rfl (by kernel_rfl) (fun w' hS => mv rfl) (edt 1 rfl (by kernel_rfl) (fun w' hS => nt rfl) (edt 2 rfl (by kernel_rfl) (fun w' hS => mv rfl) (edty 3 rfl (by kernel_rfl) rfl rfl rfl (fun w' hS => mv rfl) (edty 4 rfl (by kernel_rfl) rfl rfl rfl (fun w' hS => ln Tryd.underlying22 rfl (((hx.t (Hold.ch H5)).t hS))) (edty 5 rfl (by kernel_rfl) rfl rfl rfl (fun w' hS => bi rfl rfl rfl) (edt 6 rfl (by kernel_rfl) (fun w' hS => pk rfl rfl) (edt 7 rfl (by kernel_rfl) (fun w' hS => mv rfl) ?_)))))))
    refine spne 15 rfl (fun h64 => ?_) (fun h64 => ?_)
    · refine edtn 8 rfl (by kernel_rfl) rfl rfl rfl (edtn 9 rfl (by kernel_rfl) rfl rfl rfl (edtn 10 rfl (by kernel_rfl) rfl rfl rfl (edt 11 rfl (by kernel_rfl) (fun w' hS => pk rfl rfl) (edt 12 rfl (by kernel_rfl) (fun w' hS => mv rfl) (edtn 13 rfl (by kernel_rfl) rfl rfl rfl (edtn 14 rfl (by kernel_rfl) rfl rfl rfl (edtn 15 rfl (by kernel_rfl) rfl rfl rfl (edtn 16 rfl (by kernel_rfl) rfl rfl rfl (edtn 17 rfl (by kernel_rfl) rfl rfl rfl (edtn 18 rfl (by kernel_rfl) rfl rfl rfl ?_))))))))))
      have H6 : Hold w [] w4 [rB g3 25 ([.string (mkS ((xs.take 16).take k)), .int .i64 (inZ xs), vl]), rR i64 2 vl (inL xs ((min (inZ xs) 1408 + 63) / 64).toNat), rB g2 27 ([.bool false, .string ⟨#[]⟩, .int .i64 0, .slice none 0 0])] := Hold.news H5 H5d0
      clear H5d0 H5
      refine ed1 19 (by kernel_rfl) <| eur rfl (pk rfl rfl) (.inl (by kernel_rfl)) ?_
      refine edd (by kernel_rfl) ?_
      refine ct rfl (sq ?_)
      refine gen (fun ρ => ρ 2 = .pointer (some ⟨g2, 0, none⟩) ∧ ρ 3 = .pointer (some ⟨g3, 0, none⟩) ∧ True) ⟨rfl, rfl, trivial⟩ ?_
      rintro ρ ⟨z2, z3, -⟩
      have b6 : B w4 g2 27 ([.bool false, .string ⟨#[]⟩, .int .i64 0, .slice none 0 0]) := Hold.blk H6 2 rfl
      refine rg (r (bd (r := [.bool false, .string ⟨#[]⟩, .int .i64 0, .slice none 0 0]) ti27 pl27 pn rfl) (ef0 (xst (vs := [.bool false, .string ⟨#[]⟩, .int .i64 0, .slice none 0 0]) ti27 z2 rfl rfl b6 rfl (Nat.le_of_ble_eq_true rfl) (one_all rfl)) ?_))
      rintro w7 ⟨-, b7, c7⟩
      have H7 : Hold w [] w7 [rB g3 25 ([.string (mkS ((xs.take 16).take k)), .int .i64 (inZ xs), vl]), rR i64 2 vl (inL xs ((min (inZ xs) 1408 + 63) / 64).toNat), rB g2 27 ([.bool false, .string ⟨#[]⟩, .int .i64 0, .slice none 0 0])] := Hold.setB H6 2 rfl b7 c7 rfl
      clear H6
      clear b7 c7
      refine re (rt ?_)
      have hD : ¬ decI xs := fun e => h64 (by have := e.1; omega)
      rw [decide_eq_false hD, if_neg hD, if_neg hD, if_neg hD]
      have H8 : Hold w [] w7 [rB g3 25 ([.string (mkS ((xs.take 16).take k)), .int .i64 (inZ xs), vl]), rR i64 2 vl (inL xs ((min (inZ xs) 1408 + 63) / 64).toNat), rB g2 27 ([.bool false, .string ⟨#[]⟩, .int .i64 0, .slice none 0 0]), rR i64 2 (.slice none 0 0) ([])] := Hold.nilrow i64 2 H7
      clear H7
      have b8 : B w7 g2 27 ([.bool false, .string ⟨#[]⟩, .int .i64 0, .slice none 0 0]) := Hold.blk H8 2 rfl
      have H9 : Hold w [] w7 [rR i64 2 (.slice none 0 0) ([])] := (show Hold w [] w7 ([rR i64 2 (.slice none 0 0) ([])] ++ [rB g3 25 ([.string (mkS ((xs.take 16).take k)), .int .i64 (inZ xs), vl]), rR i64 2 vl (inL xs ((min (inZ xs) 1408 + 63) / 64).toNat), rB g2 27 ([.bool false, .string ⟨#[]⟩, .int .i64 0, .slice none 0 0])]) from Hold.re H8 [3, 0, 1, 2] (by kernel_rfl) (by rfl)).drop
      clear H8
      exact finc  (cs := [.bool false, .string ⟨#[]⟩, .int .i64 0, .slice none 0 0]) Tryd.results9 Tryd.underlying27 rfl ti27 z2 b8 rfl  ⟨_, rfl, H9⟩
    · have h64' : xs.length = 64 := by omega
      have b6 : B w4 g3 25 ([.string (mkS ((xs.take 16).take k)), .int .i64 (inZ xs), vl]) := Hold.blk H5 0 rfl
      obtain ⟨_, R8⟩ : ∃ F, Kd.R i64 w4 F vl (inL xs ((min (inZ xs) 1408 + 63) / 64).toNat) := Hold.row H5 1 rfl
      refine edty 8 rfl (by kernel_rfl) rfl rfl rfl (fun w' hS => lab [.string (mkS ((xs.take 16).take k)), .int .i64 (inZ xs), vl] Tryd.underlying25 rfl ti25 rfl (hS.b0 b6) rfl rfl) (ed1 9 (by kernel_rfl) <| eucg rfl rfl rfl rfl go46 (ac rfl an) (Inode_valid hsz (R8.t (Hold.ch H5d0)) (by omega)) ?_)
      rintro r wv ⟨rfl, cv⟩
      have H6d : Hold w4 [] wv [] := Hold.t H5d0 cv
      clear H5d0
      clear cv
      refine ⟨.inr (Hold.ch H6d), ?_⟩
      refine edty 10 rfl (by kernel_rfl) rfl rfl rfl (fun w' hS => nt rfl) (edt 11 rfl (by kernel_rfl) (fun w' hS => pk rfl rfl) (edt 12 rfl (by kernel_rfl) (fun w' hS => mv rfl) ?_))
      refine spne 20 rfl (fun hh => ?_) (fun hh => ?_)
      · refine edtn 13 rfl (by kernel_rfl) rfl rfl rfl (edtn 14 rfl (by kernel_rfl) rfl rfl rfl (edtn 15 rfl (by kernel_rfl) rfl rfl rfl (edtn 16 rfl (by kernel_rfl) rfl rfl rfl (edtn 17 rfl (by kernel_rfl) rfl rfl rfl (edtn 18 rfl (by kernel_rfl) rfl rfl rfl ?_)))))
        have H7 : Hold w [] wv [rB g3 25 ([.string (mkS ((xs.take 16).take k)), .int .i64 (inZ xs), vl]), rR i64 2 vl (inL xs ((min (inZ xs) 1408 + 63) / 64).toNat), rB g2 27 ([.bool false, .string ⟨#[]⟩, .int .i64 0, .slice none 0 0])] := Hold.news H5 H6d
        clear H6d H5
        refine ed1 19 (by kernel_rfl) <| eur rfl (pk rfl rfl) (.inl (by kernel_rfl)) ?_
        refine edd (by kernel_rfl) ?_
        refine ct rfl (sq ?_)
        refine gen (fun ρ => ρ 2 = .pointer (some ⟨g2, 0, none⟩) ∧ ρ 3 = .pointer (some ⟨g3, 0, none⟩) ∧ True) ⟨rfl, rfl, trivial⟩ ?_
        rintro ρ ⟨z2, z3, -⟩
        have b9 : B wv g2 27 ([.bool false, .string ⟨#[]⟩, .int .i64 0, .slice none 0 0]) := Hold.blk H7 2 rfl
        refine rg (r (bd (r := [.bool false, .string ⟨#[]⟩, .int .i64 0, .slice none 0 0]) ti27 pl27 pn rfl) (ef0 (xst (vs := [.bool false, .string ⟨#[]⟩, .int .i64 0, .slice none 0 0]) ti27 z2 rfl rfl b9 rfl (Nat.le_of_ble_eq_true rfl) (one_all rfl)) ?_))
        rintro w10 ⟨-, b10, c10⟩
        have H8 : Hold w [] w10 [rB g3 25 ([.string (mkS ((xs.take 16).take k)), .int .i64 (inZ xs), vl]), rR i64 2 vl (inL xs ((min (inZ xs) 1408 + 63) / 64).toNat), rB g2 27 ([.bool false, .string ⟨#[]⟩, .int .i64 0, .slice none 0 0])] := Hold.setB H7 2 rfl b10 c10 rfl
        clear H7
        clear b10 c10
        refine re (rt ?_)
        have hD : ¬ decI xs := fun e => hh (by rw [nums8_mkS ok16, trim_dec hk e, show min (inZ xs) 1408 = inZ xs by have := e.2.1.2.2.1; omega]; exact e.2.1)
        rw [decide_eq_false hD, if_neg hD, if_neg hD, if_neg hD]
        have H9 : Hold w [] w10 [rB g3 25 ([.string (mkS ((xs.take 16).take k)), .int .i64 (inZ xs), vl]), rR i64 2 vl (inL xs ((min (inZ xs) 1408 + 63) / 64).toNat), rB g2 27 ([.bool false, .string ⟨#[]⟩, .int .i64 0, .slice none 0 0]), rR i64 2 (.slice none 0 0) ([])] := Hold.nilrow i64 2 H8
        clear H8
        have b11 : B w10 g2 27 ([.bool false, .string ⟨#[]⟩, .int .i64 0, .slice none 0 0]) := Hold.blk H9 2 rfl
        have H10 : Hold w [] w10 [rR i64 2 (.slice none 0 0) ([])] := (show Hold w [] w10 ([rR i64 2 (.slice none 0 0) ([])] ++ [rB g3 25 ([.string (mkS ((xs.take 16).take k)), .int .i64 (inZ xs), vl]), rR i64 2 vl (inL xs ((min (inZ xs) 1408 + 63) / 64).toNat), rB g2 27 ([.bool false, .string ⟨#[]⟩, .int .i64 0, .slice none 0 0])]) from Hold.re H9 [3, 0, 1, 2] (by kernel_rfl) (by rfl)).drop
        clear H9
        exact finc  (cs := [.bool false, .string ⟨#[]⟩, .int .i64 0, .slice none 0 0]) Tryd.results9 Tryd.underlying27 rfl ti27 z2 b11 rfl  ⟨_, rfl, H10⟩
      · have hh' : inoOk ((xs.take 16).take k) (inZ xs) (inL xs ((min (inZ xs) 1408 + 63) / 64).toNat) := by rw [nums8_mkS ok16] at hh; simpa using hh
        have hn := trim_name hk hh'.1.1
        have hz : min (inZ xs) 1408 = inZ xs := by have := hh'.2.2.1; omega
        have hL := encI_len hh'
        obtain ⟨ad9, c9, e9⟩ := Kd.R.adr ((hx.t (Hold.ch H5)).t (Hold.ch H6d)) (by omega)
        refine edty 13 rfl (by kernel_rfl) rfl rfl rfl (fun w' hS => lab [.string (mkS ((xs.take 16).take k)), .int .i64 (inZ xs), vl] Tryd.underlying25 rfl ti25 rfl (hS.b0 b6) rfl rfl) (edty 15 rfl (by kernel_rfl) rfl rfl rfl (fun w' hS => mv rfl) (edty 16 rfl (by kernel_rfl) rfl rfl rfl (fun w' hS => s2a Tryd.underlying85 (e9) (by omega)) (edty 17 rfl (by kernel_rfl) rfl rfl rfl (fun w' hS => lar Tryd.underlying85 ti85 e9 ((hx.t (Hold.ch H5)).t hS) (by omega) rfl) (ed1 14 (by kernel_rfl) <| eucg rfl rfl rfl rfl go47 (ac rfl an) (Inode_block hsz (R8.t (Hold.ch H6d)) (by omega) hh) ?_))))
        rintro r wb ⟨rfl, cb⟩
        have H7d : Hold w4 [] wb [] := Hold.t H6d cb
        clear H6d
        clear cb
        refine ⟨.inr (Hold.ch H7d), ?_⟩
        refine edty 18 rfl (by kernel_rfl) rfl rfl rfl (fun w' hS => ane Tryd.underlying85 Tryd.underlying5 ti5 (by kernel_rfl) rfl rfl (by rw [nums8_mkS ok16]; exact hL) (by simp; omega)) ?_
        have H8 : Hold w [] wb [rB g3 25 ([.string (mkS ((xs.take 16).take k)), .int .i64 (inZ xs), vl]), rR i64 2 vl (inL xs ((min (inZ xs) 1408 + 63) / 64).toNat), rB g2 27 ([.bool false, .string ⟨#[]⟩, .int .i64 0, .slice none 0 0])] := Hold.news H5 H7d
        clear H7d H5
        refine ed1 19 (by kernel_rfl) <| eur rfl (pk rfl rfl) (.inl (by kernel_rfl)) ?_
        refine edd (by kernel_rfl) ?_
        refine cpn rfl (fun he => ?_) (fun he => ?_)
        · refine sq ?_
          refine gen (fun ρ => ρ 2 = .pointer (some ⟨g2, 0, none⟩) ∧ ρ 3 = .pointer (some ⟨g3, 0, none⟩) ∧ True) ⟨rfl, rfl, trivial⟩ ?_
          rintro ρ ⟨z2, z3, -⟩
          have b11 : B wb g2 27 ([.bool false, .string ⟨#[]⟩, .int .i64 0, .slice none 0 0]) := Hold.blk H8 2 rfl
          refine rg (r (bd (r := [.bool false, .string ⟨#[]⟩, .int .i64 0, .slice none 0 0]) ti27 pl27 pn rfl) (ef0 (xst (vs := [.bool false, .string ⟨#[]⟩, .int .i64 0, .slice none 0 0]) ti27 z2 rfl rfl b11 rfl (Nat.le_of_ble_eq_true rfl) (one_all rfl)) ?_))
          rintro w12 ⟨-, b12, c12⟩
          have H9 : Hold w [] w12 [rB g3 25 ([.string (mkS ((xs.take 16).take k)), .int .i64 (inZ xs), vl]), rR i64 2 vl (inL xs ((min (inZ xs) 1408 + 63) / 64).toNat), rB g2 27 ([.bool false, .string ⟨#[]⟩, .int .i64 0, .slice none 0 0])] := Hold.setB H8 2 rfl b12 c12 rfl
          clear H8
          clear b12 c12
          refine re (rt ?_)
          have hD : ¬ decI xs := fun e => he (by rw [List.take_of_length_le (l := xs) (i := 64) (by omega), nums8_mkS ok16, hn, hz]; exact e.2.2)
          rw [decide_eq_false hD, if_neg hD, if_neg hD, if_neg hD]
          have H10 : Hold w [] w12 [rB g3 25 ([.string (mkS ((xs.take 16).take k)), .int .i64 (inZ xs), vl]), rR i64 2 vl (inL xs ((min (inZ xs) 1408 + 63) / 64).toNat), rB g2 27 ([.bool false, .string ⟨#[]⟩, .int .i64 0, .slice none 0 0]), rR i64 2 (.slice none 0 0) ([])] := Hold.nilrow i64 2 H9
          clear H9
          have b13 : B w12 g2 27 ([.bool false, .string ⟨#[]⟩, .int .i64 0, .slice none 0 0]) := Hold.blk H10 2 rfl
          have H11 : Hold w [] w12 [rR i64 2 (.slice none 0 0) ([])] := (show Hold w [] w12 ([rR i64 2 (.slice none 0 0) ([])] ++ [rB g3 25 ([.string (mkS ((xs.take 16).take k)), .int .i64 (inZ xs), vl]), rR i64 2 vl (inL xs ((min (inZ xs) 1408 + 63) / 64).toNat), rB g2 27 ([.bool false, .string ⟨#[]⟩, .int .i64 0, .slice none 0 0])]) from Hold.re H10 [3, 0, 1, 2] (by kernel_rfl) (by rfl)).drop
          clear H10
          exact finc  (cs := [.bool false, .string ⟨#[]⟩, .int .i64 0, .slice none 0 0]) Tryd.results9 Tryd.underlying27 rfl ti27 z2 b13 rfl  ⟨_, rfl, H11⟩
        · rw [List.take_of_length_le (l := xs) (i := 64) (by omega), nums8_mkS ok16] at he
          rw [hn, hz] at hh' he
          have hD : decI xs := ⟨h64', hh', he⟩
          rw [decide_eq_true hD, if_pos hD, if_pos hD, if_pos hD]
          refine sk (sq ?_)
          refine gen (fun ρ => ρ 2 = .pointer (some ⟨g2, 0, none⟩) ∧ ρ 3 = .pointer (some ⟨g3, 0, none⟩) ∧ True) ⟨rfl, rfl, trivial⟩ ?_
          rintro ρ ⟨z2, z3, -⟩
          have b11 : B wb g3 25 ([.string (mkS ((xs.take 16).take k)), .int .i64 (inZ xs), vl]) := Hold.blk H8 0 rfl
          have b12 : B wb g2 27 ([.bool false, .string ⟨#[]⟩, .int .i64 0, .slice none 0 0]) := Hold.blk H8 2 rfl
          obtain ⟨_, R14⟩ : ∃ F, Kd.R i64 wb F vl (inL xs ((min (inZ xs) 1408 + 63) / 64).toNat) := Hold.row H8 1 rfl
          refine rg (r (lab [.string (mkS ((xs.take 16).take k)), .int .i64 (inZ xs), vl] Tryd.underlying25 rfl ti25 z3 b11 rfl rfl) (r (bd (r := [.bool true, .string (mkS ((xs.take 16).take k)), .int .i64 (inZ xs), vl]) ti27 pl27 (pc rfl (cel1 rfl) (pc rfl rfl pn)) rfl) (ef0 (xst (vs := [.bool true, .string (mkS ((xs.take 16).take k)), .int .i64 (inZ xs), vl]) ti27 z2 rfl rfl b12 rfl (Nat.le_of_ble_eq_true rfl) (oc rfl (oc rfl (oc rfl (oc (R14).oneCell on))))) ?_)))
          rintro w13 ⟨-, b13, c13⟩
          have H9 : Hold w [] w13 [rB g3 25 ([.string (mkS ((xs.take 16).take k)), .int .i64 (inZ xs), vl]), rR i64 2 vl (inL xs ((min (inZ xs) 1408 + 63) / 64).toNat), rB g2 27 ([.bool true, .string (mkS ((xs.take 16).take k)), .int .i64 (inZ xs), vl])] := Hold.setB H8 2 rfl b13 c13 rfl
          clear H8
          clear b13 c13
          refine re (rt ?_)
          have H10 : Hold w [] w13 [rB g3 25 ([.string (mkS ((xs.take 16).take k)), .int .i64 (inZ xs), vl]), rR i64 2 vl (inLs xs), rB g2 27 ([.bool true, .string (mkS ((xs.take 16).take k)), .int .i64 (inZ xs), vl])] := (by rw [hz] at H9; exact H9)
          clear H9
          have b15 : B w13 g2 27 ([.bool true, .string (mkS ((xs.take 16).take k)), .int .i64 (inZ xs), vl]) := Hold.blk H10 2 rfl
          have H11 : Hold w [] w13 [rR i64 2 vl (inLs xs)] := (show Hold w [] w13 ([rR i64 2 vl (inLs xs)] ++ [rB g3 25 ([.string (mkS ((xs.take 16).take k)), .int .i64 (inZ xs), vl]), rB g2 27 ([.bool true, .string (mkS ((xs.take 16).take k)), .int .i64 (inZ xs), vl])]) from Hold.re H10 [1, 0, 2] (by kernel_rfl) (by rfl)).drop
          clear H10
          exact finc  (cs := [.bool true, .string (mkS ((xs.take 16).take k)), .int .i64 (inZ xs), vl]) Tryd.results9 Tryd.underlying27 rfl ti27 z2 b15 rfl  ⟨_, by rw [hn], H11⟩
  · have Hq := Hold.call K3 Hr
    obtain ⟨cs9, Hq⟩ := Hold.exe Hq
    have H4 : Hold w [] wr [(rB g3 25 cs9), rB g2 27 ([.bool false, .string ⟨#[]⟩, .int .i64 0, .slice none 0 0])] := Hq
    clear H3
    refine r (sa rfl) (re (sq (sq ?_)))
    refine rde mixed ?_
    intro w4 c4
    have H5 : Hold w [] w4 [(rB g3 25 cs9), rB g2 27 ([.bool false, .string ⟨#[]⟩, .int .i64 0, .slice none 0 0])] := Hold.t H4 c4
    clear H4
    clear c4
    have H5d0 : Hold w4 [] w4 [] := Hold.start w4
    refine ⟨fun w' => Ch [] w4 w', Ch.refl _ _, ?_⟩
    refine edt 0 rfl (by kernel_rfl) (fun w' hS => mv rfl) (edt 1 rfl (by kernel_rfl) (fun w' hS => nt rfl) (edt 2 rfl (by kernel_rfl) (fun w' hS => mv rfl) (edtn 3 rfl (by kernel_rfl) rfl rfl rfl (edtn 4 rfl (by kernel_rfl) rfl rfl rfl (edtn 5 rfl (by kernel_rfl) rfl rfl rfl (edt 6 rfl (by kernel_rfl) (fun w' hS => pk rfl rfl) (edt 7 rfl (by kernel_rfl) (fun w' hS => mv rfl) (edtn 8 rfl (by kernel_rfl) rfl rfl rfl (edtn 9 rfl (by kernel_rfl) rfl rfl rfl (edtn 10 rfl (by kernel_rfl) rfl rfl rfl (edt 11 rfl (by kernel_rfl) (fun w' hS => pk rfl rfl) (edt 12 rfl (by kernel_rfl) (fun w' hS => mv rfl) (edtn 13 rfl (by kernel_rfl) rfl rfl rfl (edtn 14 rfl (by kernel_rfl) rfl rfl rfl (edtn 15 rfl (by kernel_rfl) rfl rfl rfl (edtn 16 rfl (by kernel_rfl) rfl rfl rfl (edtn 17 rfl (by kernel_rfl) rfl rfl rfl (edtn 18 rfl (by kernel_rfl) rfl rfl rfl ?_))))))))))))))))))
    have H6 : Hold w [] w4 [(rB g3 25 cs9), rB g2 27 ([.bool false, .string ⟨#[]⟩, .int .i64 0, .slice none 0 0])] := Hold.news H5 H5d0
    clear H5d0 H5
    refine ed1 19 (by kernel_rfl) <| eur rfl (pk rfl rfl) (.inl (by kernel_rfl)) ?_
    refine edd (by kernel_rfl) ?_
    refine ct rfl (sq ?_)
    refine gen (fun ρ => ρ 2 = .pointer (some ⟨g2, 0, none⟩) ∧ ρ 3 = .pointer (some ⟨g3, 0, none⟩) ∧ True) ⟨rfl, rfl, trivial⟩ ?_
    rintro ρ ⟨z2, z3, -⟩
    have b6 : B w4 g2 27 ([.bool false, .string ⟨#[]⟩, .int .i64 0, .slice none 0 0]) := Hold.blk H6 1 rfl
    refine rg (r (bd (r := [.bool false, .string ⟨#[]⟩, .int .i64 0, .slice none 0 0]) ti27 pl27 pn rfl) (ef0 (xst (vs := [.bool false, .string ⟨#[]⟩, .int .i64 0, .slice none 0 0]) ti27 z2 rfl rfl b6 rfl (Nat.le_of_ble_eq_true rfl) (one_all rfl)) ?_))
    rintro w7 ⟨-, b7, c7⟩
    have H7 : Hold w [] w7 [(rB g3 25 cs9), rB g2 27 ([.bool false, .string ⟨#[]⟩, .int .i64 0, .slice none 0 0])] := Hold.setB H6 1 rfl b7 c7 rfl
    clear H6
    clear b7 c7
    refine re (rt ?_)
    have hD : ¬ decI xs := fun e => by have := e.1; omega
    rw [decide_eq_false hD, if_neg hD, if_neg hD, if_neg hD]
    have H8 : Hold w [] w7 [(rB g3 25 cs9), rB g2 27 ([.bool false, .string ⟨#[]⟩, .int .i64 0, .slice none 0 0]), rR i64 2 (.slice none 0 0) ([])] := Hold.nilrow i64 2 H7
    clear H7
    have b8 : B w7 g2 27 ([.bool false, .string ⟨#[]⟩, .int .i64 0, .slice none 0 0]) := Hold.blk H8 1 rfl
    have H9 : Hold w [] w7 [rR i64 2 (.slice none 0 0) ([])] := (show Hold w [] w7 ([rR i64 2 (.slice none 0 0) ([])] ++ [(rB g3 25 cs9), rB g2 27 ([.bool false, .string ⟨#[]⟩, .int .i64 0, .slice none 0 0])]) from Hold.re H8 [2, 0, 1] (by kernel_rfl) (by rfl)).drop
    clear H8
    exact finc  (cs := [.bool false, .string ⟨#[]⟩, .int .i64 0, .slice none 0 0]) Tryd.results9 Tryd.underlying27 rfl ti27 z2 b8 rfl  ⟨_, rfl, H9⟩
theorem mkS_app (xs ys : List Int) : mkS xs ++ mkS ys = mkS (xs ++ ys) := by
  apply ba_ext
  rw [ByteArray.data_append, Array.toList_append, mkS_data, mkS_data, mkS_data, List.map_append]
theorem mkS_snoc {xs : List Int} {i : Nat} (h : i < xs.length) : mkS (xs.take i) ++ mkS [xs[i]] = mkS (xs.take (i + 1)) := by
  rw [mkS_app, List.take_succ_eq_append_getElem h]
theorem ok8_flat {l : List (Int × Int)} : ok8 (flat l) := by
  intro x hx
  obtain ⟨y, _, hy⟩ := List.mem_flatMap.1 hx
  exact ok8_big _ _ _ hy
theorem ok8_encIno {nm : List Int} {z : Int} {ls : List Int} (ok : ok8 nm) : ok8 (encIno nm z ls) := by
  unfold encIno
  split
  · exact ok8_app (ok8_app (ok8_app ok (ok8_rep _)) ok8_flat) (ok8_rep _)
  · intro x hx; cases hx
theorem decI_iff {xs : List Int} (ok : ok8 xs) (hl : xs.length = 64) : mkS (encIno (inN xs) (inZ xs) (inLs xs)) = mkS xs ↔ decI xs := by
  have okn : ok8 (inN xs) := fun x hx => ok x (List.mem_of_mem_take ((List.takeWhile_sublist _).subset hx))
  constructor
  · intro h
    have h1 := mkS_inj (ok8_encIno okn) ok h
    have hh : inoOk (inN xs) (inZ xs) (inLs xs) := by
      by_cases hh : inoOk (inN xs) (inZ xs) (inLs xs)
      · exact hh
      · rw [encIno, if_neg hh] at h1
        rw [← h1] at hl; simp at hl
    rw [encIno, if_pos hh] at h1
    exact ⟨hl, hh, h1⟩
  · rintro ⟨_, hh, h1⟩
    rw [encIno, if_pos hh, h1]
theorem inN_cut {xs : List Int} {i : Nat} (h0 : i ≤ 16) (hl : 16 ≤ xs.length) (h1 : ∀ b, b ∈ xs.take i → b ≠ 0) (h2 : i = 16 ∨ ∃ h : i < xs.length, xs[i] = 0) : inN xs = xs.take i := by
  have e : (xs.take 16).take i = xs.take i := by rw [List.take_take, Nat.min_eq_left h0]
  rw [inN, tw_cut (k := i) (by simp; omega) (by rw [e]; exact h1), e]
  intro h
  rw [List.getElem_take]
  rcases h2 with rfl | ⟨_, h2⟩
  · simp at h; omega
  · exact h2
theorem nz_step {xs : List Int} {i : Nat} (hi : i < xs.length) (h : ∀ b, b ∈ xs.take i → b ≠ 0) (hb : xs[i] ≠ 0) : ∀ b, b ∈ xs.take (i + 1) → b ≠ 0 := by
  intro b hb'
  rw [List.take_succ_eq_append_getElem hi, List.mem_append, List.mem_singleton] at hb'
  rcases hb' with h' | rfl
  · exact h b h'
  · exact hb
theorem spec_DecodeInode {w : World} {F : List Nat} {v : Value} {xs : List Int} (hx : u8.R w F v xs) (lx : xs.length ≤ 1000000000) (ok : ok8 xs) :
    Ret Tryd.prog 7 #[v] w (fun r w' => ∃ v, r = .agg #[.bool (decide (decI xs)), .string (if decI xs then mkS (inN xs) else ⟨#[]⟩), .int .i64 (if decI xs then inZ xs else 0), v] ∧ Hold w [] w' [rR i64 2 v (if decI xs then inLs xs else [])]) := by
  refine enter Tryd.func7 rfl Tryd.ntmps7 (by rfl) (by rfl) ?_
  have H0 : Hold w [] w [] := Hold.start w
  have z0 := inZ_nn ok
  refine sq (rg (ef (xal ti27) ?_))
  rintro _ w1 ⟨g2, e1, rfl, -, b1, c1⟩
  have H1 : Hold w [] w1 [rB g2 27 ([.bool false, .string ⟨#[]⟩, .int .i64 0, .slice none 0 0])] := Hold.newB H0 e1 b1 c1
  clear H0
  clear e1 b1 c1
  refine re (sq (sq (rg (r (mv rfl) (r (ln Tryd.underlying22 rfl ((hx.t (Hold.ch H1)))) (r (bi rfl rfl rfl) (re ?_)))))))
  refine cpn rfl (fun h64 => ?_) (fun h64 => ?_)
  · have b2 : B w1 g2 27 ([.bool false, .string ⟨#[]⟩, .int .i64 0, .slice none 0 0]) := Hold.blk H1 0 rfl
    refine sq (rg (r (bd (r := [.bool false, .string ⟨#[]⟩, .int .i64 0, .slice none 0 0]) ti27 pl27 pn rfl) (ef0 (xst (vs := [.bool false, .string ⟨#[]⟩, .int .i64 0, .slice none 0 0]) ti27 rfl rfl rfl b2 rfl (Nat.le_of_ble_eq_true rfl) (one_all rfl)) ?_)))
    rintro w3 ⟨-, b3, c3⟩
    have H2 : Hold w [] w3 [rB g2 27 ([.bool false, .string ⟨#[]⟩, .int .i64 0, .slice none 0 0])] := Hold.setB H1 0 rfl b3 c3 rfl
    clear H1
    clear b3 c3
    refine re (rt ?_)
    have hD : ¬ decI xs := fun e => h64 (by have := e.1; omega)
    rw [decide_eq_false hD, if_neg hD, if_neg hD, if_neg hD]
    have H3 : Hold w [] w3 [rB g2 27 ([.bool false, .string ⟨#[]⟩, .int .i64 0, .slice none 0 0]), rR i64 2 (.slice none 0 0) ([])] := Hold.nilrow i64 2 H2
    clear H2
    have b4 : B w3 g2 27 ([.bool false, .string ⟨#[]⟩, .int .i64 0, .slice none 0 0]) := Hold.blk H3 0 rfl
    have H4 : Hold w [] w3 [rR i64 2 (.slice none 0 0) ([])] := (show Hold w [] w3 ([rR i64 2 (.slice none 0 0) ([])] ++ [rB g2 27 ([.bool false, .string ⟨#[]⟩, .int .i64 0, .slice none 0 0])]) from Hold.re H3 [1, 0] (by kernel_rfl) (by rfl)).drop
    clear H3
    exact finc  (cs := [.bool false, .string ⟨#[]⟩, .int .i64 0, .slice none 0 0]) Tryd.results7 Tryd.underlying27 rfl ti27 rfl b4 rfl  ⟨_, rfl, H4⟩
  · have h64' : xs.length = 64 := by omega
    obtain ⟨e16, z1, z2⟩ := two_id ok (k := 16) (by omega)
    obtain ⟨F3, us3, R3⟩ := Kd.R.sl (hx.t (Hold.ch H1)) (16) (18) (by first | omega | (simp; omega)) (by first | omega | (simp; omega))
    have e3 : (xs.take 18).drop 16 = (xs.drop 16).take 2 := by first | (rw [List.take_length, List.drop_drop]; done) | (rw [List.drop_take]; done) | (simp; done) | (rw [List.drop_take]; congr 1; omega) | (rw [List.take_length, List.drop_drop]; congr 1; omega)
    rw [e3] at R3
    refine sk (sq (rg (r (mv rfl) (r (slr (16) (18) Tryd.underlying22 ti5 (hx.t (Hold.ch H1)) rfl rfl rfl (by omega)) (cl go38 (l2Number R3 (by simp; omega) (ok8_take (ok8_drop ok _) _) (Int.le_trans z2 (by omega))) (ac rfl an) ?_)))))
    rintro r wn ⟨rfl, Hn⟩
    have H2 : Hold w [] wn [rB g2 27 ([.bool false, .string ⟨#[]⟩, .int .i64 0, .slice none 0 0])] := Hold.news H1 Hn
    clear H1
    clear Hn
    refine r (bd (r := [.string ⟨#[]⟩, .int .i64 (inZ xs), .slice none 0 0]) ti25 pl25 (pc rfl (cel1 rfl) pn) rfl) (ef (xal ti25) ?_)
    rintro _ w4 ⟨g3, e4, rfl, -, b4, c4⟩
    have H3 : Hold w [] w4 [rB g2 27 ([.bool false, .string ⟨#[]⟩, .int .i64 0, .slice none 0 0]), rB g3 25 ([.string ⟨#[]⟩, .int .i64 0, .slice none 0 0])] := Hold.newB H2 e4 b4 c4
    clear H2
    clear e4 b4 c4
    have b5 : B w4 g3 25 ([.string ⟨#[]⟩, .int .i64 0, .slice none 0 0]) := Hold.blk H3 1 rfl
    refine ef0 (xst (vs := [.string ⟨#[]⟩, .int .i64 (inZ xs), .slice none 0 0]) ti25 rfl rfl rfl b5 rfl (Nat.le_of_ble_eq_true rfl) (one_all rfl)) ?_
    rintro w6 ⟨-, b6, c6⟩
    have H4 : Hold w [] w6 [rB g2 27 ([.bool false, .string ⟨#[]⟩, .int .i64 0, .slice none 0 0]), rB g3 25 ([.string ⟨#[]⟩, .int .i64 (inZ xs), .slice none 0 0])] := Hold.setB H3 1 rfl b6 c6 rfl
    clear H3
    clear b6 c6
    refine re (sq (sq (rg (r (sa rfl) (re (bl ?_))))))
    refine lp (α := Nat) (fun i ρ w' => ρ 0 = v ∧ ρ 2 = .pointer (some ⟨g2, 0, none⟩) ∧ ρ 3 = .pointer (some ⟨g3, 0, none⟩) ∧ ρ 4 = .int .i64 (i : Int) ∧ Hold w [] w' [rB g2 27 ([.bool false, .string ⟨#[]⟩, .int .i64 0, .slice none 0 0]), rB g3 25 ([.string (mkS (xs.take i)), .int .i64 (inZ xs), .slice none 0 0])] ∧ i ≤ 16 ∧ ∀ b, b ∈ xs.take i → b ≠ 0) (fun i => 16 - i) 0 ?_ ?_
    · exact ⟨rfl, rfl, rfl, rfl, H4, ⟨by omega, by simp⟩⟩
    clear H4
    rintro i ρ w505 ⟨y0, y2, y3, y4, H5, ⟨hi, hnz⟩⟩
    refine sq (sq (rg (r (mv y4) (r (bi rfl rfl rfl) (r (mv rfl) ?_)))))
    refine sp 16 rfl (fun h => ?_) (fun h => ?_)
    · have hi' : i < xs.length := by omega
      refine gy rfl rfl rfl (r (mv y0) (gy rfl rfl rfl (r (mv y4) (gy rfl rfl rfl ?_))))
      obtain ⟨c19_7, ad19_7, k19_7, e19_7, p19_7⟩ := Kd.R.place hx i (by omega)
      refine r (ix (j := i) Tryd.underlying22 ti5 e19_7 rfl (by omega)) (gy rfl rfl rfl (r (ld Tryd.underlying5 rfl rfl (Ch.cell (Hold.ch H5) p19_7.cell)) (gy rfl rfl rfl (r (bi rfl rfl rfl) (r (pk rfl rfl) (re ?_))))))
      refine cpn rfl (fun hne => ?_) (fun hne => ?_)
      · have hne' : xs[i] ≠ 0 := by simpa using hne
        refine sk (sq (bl ?_))
        refine rde mixed ?_
        intro w8 c8
        have H6 : Hold w [] w8 [rB g2 27 ([.bool false, .string ⟨#[]⟩, .int .i64 0, .slice none 0 0]), rB g3 25 ([.string (mkS (xs.take i)), .int .i64 (inZ xs), .slice none 0 0])] := Hold.t H5 c8
        clear H5
        clear c8
        have H9d0 : Hold w8 [] w8 [] := Hold.start w8
        refine ⟨fun w' => Ch [] w8 w', Ch.refl _ _, ?_⟩
        have b10 : B w8 g3 25 ([.string (mkS (xs.take i)), .int .i64 (inZ xs), .slice none 0 0]) := Hold.blk H6 1 rfl
        refine edt 0 rfl (by kernel_rfl) (fun w' hS => fa Tryd.underlying25 rfl ti9 rfl y3) (edt 1 rfl (by kernel_rfl) (fun w' hS => ldb Tryd.underlying9 rfl rfl (hS.b0 b10) rfl) (edt 2 rfl (by kernel_rfl) (fun w' hS => mv y0) (edt 3 rfl (by kernel_rfl) (fun w' hS => mv y4) ?_)))
        obtain ⟨c29_11, ad29_11, k29_11, e29_11, p29_11⟩ := Kd.R.place hx i (by omega)
        refine edt 4 rfl (by kernel_rfl) (fun w' hS => ix (j := i) Tryd.underlying22 ti5 e29_11 rfl (by omega)) (edt 5 rfl (by kernel_rfl) (fun w' hS => ld Tryd.underlying5 rfl rfl (Ch.cell hS (Ch.cell (Hold.ch H6) p29_11.cell))) (ed1 6 (by kernel_rfl) <| euf rfl (bsm (cs := [.int .u8 (xs[i])]) Tryd.underlying22 ti5 rfl (by rfl) (pc rfl (cel1 rfl) pn) rfl) ?_))
        rintro _ w12 ⟨g31, e12, rfl, -, b12, c12⟩
        have H7d : Hold w8 [] w12 [rB g31 5 ([.int .u8 (xs[i])])] := Hold.newB H9d0 e12 b12 c12
        clear H9d0
        clear e12 b12 c12
        refine ⟨.inr (Hold.ch H7d), ?_⟩
        have b13 : B w12 g31 5 ([.int .u8 (xs[i])]) := Hold.blk H7d 0 rfl
        refine ed1 7 (by kernel_rfl) <| eur rfl (cvbs Tryd.underlying22 Tryd.underlying5 Tryd.underlying9 (row_of_B (dk := u8) (xs := [xs[i]]) b13 (els_int [xs[i]]) (Nat.le_of_ble_eq_true rfl)).R rfl) (.inr (Hold.ch H7d)) ?_
        have H8 : Hold w [] w12 [rB g2 27 ([.bool false, .string ⟨#[]⟩, .int .i64 0, .slice none 0 0]), rB g3 25 ([.string (mkS (xs.take i)), .int .i64 (inZ xs), .slice none 0 0]), rB g31 5 ([.int .u8 (xs[i])])] := Hold.news H6 H7d
        clear H7d H6
        have b14 : B w12 g3 25 ([.string (mkS (xs.take i)), .int .i64 (inZ xs), .slice none 0 0]) := Hold.blk H8 1 rfl
        refine edt 8 rfl (by kernel_rfl) (fun w' hS => sct rfl rfl (by simp only [mkS_size, List.length_take, List.length_singleton]; omega)) (edt 9 rfl (by kernel_rfl) (fun w' hS => fa Tryd.underlying25 rfl ti9 rfl y3) (ed1 10 (by kernel_rfl) <| euf0 rfl (xst (vs := [.string ((mkS (xs.take i)) ++ (mkS ([xs[i]])))]) ti9 rfl rfl (cel1 rfl) b14 rfl (Nat.le_of_ble_eq_true rfl) (one_all rfl)) ?_))
        rintro w15 ⟨-, b15, c15⟩
        have H9 : Hold w [] w15 [rB g2 27 ([.bool false, .string ⟨#[]⟩, .int .i64 0, .slice none 0 0]), rB g3 25 ([.string ((mkS (xs.take i)) ++ (mkS ([xs[i]]))), .int .i64 (inZ xs), .slice none 0 0]), rB g31 5 ([.int .u8 (xs[i])])] := Hold.setB H8 1 rfl b15 c15 rfl
        clear H8
        clear b15 c15
        refine ⟨.inl (by kernel_rfl), ?_⟩
        refine edd (by kernel_rfl) ?_
        refine be ?_
        refine gen (fun ρ => ρ 0 = v ∧ ρ 2 = .pointer (some ⟨g2, 0, none⟩) ∧ ρ 3 = .pointer (some ⟨g3, 0, none⟩) ∧ ρ 4 = .int .i64 (i : Int) ∧ True) ⟨y0, y2, y3, y4, trivial⟩ ?_
        rintro ρ ⟨z0, z2, z3, z4, -⟩
        refine rg (r (mv z4) (r (ad (a := (i : Int)) (b := 1) ((i : Int) + 1) rfl rfl (by omega)) (r (sa rfl) (re ?_))))
        have H10 : Hold w [] w15 [rB g2 27 ([.bool false, .string ⟨#[]⟩, .int .i64 0, .slice none 0 0]), rB g3 25 ([.string ((mkS (xs.take i)) ++ (mkS ([xs[i]]))), .int .i64 (inZ xs), .slice none 0 0])] := (show Hold w [] w15 ([rB g2 27 ([.bool false, .string ⟨#[]⟩, .int .i64 0, .slice none 0 0]), rB g3 25 ([.string ((mkS (xs.take i)) ++ (mkS ([xs[i]]))), .int .i64 (inZ xs), .slice none 0 0])] ++ [rB g31 5 ([.int .u8 (xs[i])])]) from Hold.re H9 [0, 1, 2] (by kernel_rfl) (by rfl)).drop
        clear H9
        exact ag (i + 1) ⟨z0, z2, z3, rfl, (by rw [← mkS_snoc hi']; exact H10), ⟨by omega, nz_step hi' hnz hne'⟩⟩ (by first | omega | (dsimp only; omega))
      · have b8 : B w505 g3 25 ([.string (mkS (xs.take i)), .int .i64 (inZ xs), .slice none 0 0]) := Hold.blk H5 1 rfl
        refine ex rfl (sq (sq (rg (r (fa Tryd.underlying25 rfl ti2 rfl y3) (r (ldb Tryd.underlying2 rfl rfl b8 rfl) (r (bi rfl rfl rfl) (re ?_)))))))
        have hn : inN xs = xs.take i := inN_cut hi (by omega) hnz (.inr ⟨hi', by simpa using hne⟩)
        rw [← hn] at H5
        refine cp rfl (fun hz => ?_) (fun hz => ?_)
        · refine sq ?_
          refine gen (fun ρ => ρ 0 = v ∧ ρ 2 = .pointer (some ⟨g2, 0, none⟩) ∧ ρ 3 = .pointer (some ⟨g3, 0, none⟩) ∧ True) ⟨y0, y2, y3, trivial⟩ ?_
          rintro ρ ⟨z0, z2, z3, -⟩
          have b9 : B w505 g2 27 ([.bool false, .string ⟨#[]⟩, .int .i64 0, .slice none 0 0]) := Hold.blk H5 0 rfl
          refine rg (r (bd (r := [.bool false, .string ⟨#[]⟩, .int .i64 0, .slice none 0 0]) ti27 pl27 pn rfl) (ef0 (xst (vs := [.bool false, .string ⟨#[]⟩, .int .i64 0, .slice none 0 0]) ti27 z2 rfl rfl b9 rfl (Nat.le_of_ble_eq_true rfl) (one_all rfl)) ?_))
          rintro w10 ⟨-, b10, c10⟩
          have H6 : Hold w [] w10 [rB g2 27 ([.bool false, .string ⟨#[]⟩, .int .i64 0, .slice none 0 0]), rB g3 25 ([.string (mkS (inN xs)), .int .i64 (inZ xs), .slice none 0 0])] := Hold.setB H5 0 rfl b10 c10 rfl
          clear H5
          clear b10 c10
          refine re (rt ?_)
          have hD : ¬ decI xs := fun e => by have := e.2.1.2.2.1; omega
          rw [decide_eq_false hD, if_neg hD, if_neg hD, if_neg hD]
          have H7 : Hold w [] w10 [rB g2 27 ([.bool false, .string ⟨#[]⟩, .int .i64 0, .slice none 0 0]), rB g3 25 ([.string (mkS (inN xs)), .int .i64 (inZ xs), .slice none 0 0]), rR i64 2 (.slice none 0 0) ([])] := Hold.nilrow i64 2 H6
          clear H6
          have b11 : B w10 g2 27 ([.bool false, .string ⟨#[]⟩, .int .i64 0, .slice none 0 0]) := Hold.blk H7 0 rfl
          have H8 : Hold w [] w10 [rR i64 2 (.slice none 0 0) ([])] := (show Hold w [] w10 ([rR i64 2 (.slice none 0 0) ([])] ++ [rB g2 27 ([.bool false, .string ⟨#[]⟩, .int .i64 0, .slice none 0 0]), rB g3 25 ([.string (mkS (inN xs)), .int .i64 (inZ xs), .slice none 0 0])]) from Hold.re H7 [2, 0, 1] (by kernel_rfl) (by rfl)).drop
          clear H7
          exact finc  (cs := [.bool false, .string ⟨#[]⟩, .int .i64 0, .slice none 0 0]) Tryd.results7 Tryd.underlying27 rfl ti27 z2 b11 rfl  ⟨_, rfl, H8⟩
        · have H6 : Hold w [] w505 [rB g2 27 ([.bool false, .string ⟨#[]⟩, .int .i64 0, .slice none 0 0]), rB g3 25 ([.string (mkS (inN xs)), .int .i64 (inZ xs), .slice none 0 0]), rR i64 2 (.slice none 0 0) ([])] := Hold.nilrow i64 2 H5
          clear H5
          refine sk (sq (sq ?_))
          refine gen (fun ρ => ρ 0 = v ∧ ρ 2 = .pointer (some ⟨g2, 0, none⟩) ∧ ρ 3 = .pointer (some ⟨g3, 0, none⟩) ∧ True) ⟨y0, y2, y3, trivial⟩ ?_
          rintro ρ ⟨z0, z2, z3, -⟩
          refine rg (r (sa rfl) (re (bl ?_)))
          refine lp (α := Nat × Value) (fun (m, o) ρ w' => ρ 0 = v ∧ ρ 2 = .pointer (some ⟨g2, 0, none⟩) ∧ ρ 3 = .pointer (some ⟨g3, 0, none⟩) ∧ ρ 5 = .int .i64 (m : Int) ∧ Hold w [] w' [rB g2 27 ([.bool false, .string ⟨#[]⟩, .int .i64 0, .slice none 0 0]), rB g3 25 ([.string (mkS (inN xs)), .int .i64 (inZ xs), o]), rR i64 2 o (inL xs m)] ∧ (m : Int) ≤ (inZ xs + 63) / 64) (fun (m, o) => ((inZ xs + 63) / 64 - m).toNat) (0, .slice none 0 0) ?_ ?_
          · exact ⟨z0, z2, z3, rfl, H6, by omega⟩
          clear H6
          rintro ⟨m, o⟩ ρ w507 ⟨y0, y2, y3, y5, H7, hm⟩
          have b9 : B w507 g3 25 ([.string (mkS (inN xs)), .int .i64 (inZ xs), o]) := Hold.blk H7 1 rfl
          refine sq (sq (rg (r (mv y5) (r (fa Tryd.underlying25 rfl ti2 rfl y3) (r (ldb Tryd.underlying2 rfl rfl b9 rfl) (cl go39 (l2Blocks (n := inZ xs) (by omega)) (ac rfl an) ?_))))))
          rintro r wb ⟨rfl, cb⟩
          have H8 : Hold w [] wb [rB g2 27 ([.bool false, .string ⟨#[]⟩, .int .i64 0, .slice none 0 0]), rB g3 25 ([.string (mkS (inN xs)), .int .i64 (inZ xs), o]), rR i64 2 o (inL xs m)] := Hold.t H7 cb
          clear H7
          clear cb
          refine r (bi rfl rfl rfl) (re ?_)
          refine cp rfl (fun h => ?_) (fun h => ?_)
          · have hm' : 18 + 2 * m + 2 ≤ 64 := by omega
            obtain ⟨e2, z5, z6⟩ := two_id ok (k := 18 + 2 * m) (by omega)
            refine sk (sq (bl ?_))
            refine rde mixed ?_
            intro w11 c11
            have H9 : Hold w [] w11 [rB g2 27 ([.bool false, .string ⟨#[]⟩, .int .i64 0, .slice none 0 0]), rB g3 25 ([.string (mkS (inN xs)), .int .i64 (inZ xs), o]), rR i64 2 o (inL xs m)] := Hold.t H8 c11
            clear H8
            clear c11
            have H10 : Hold w [] w11 [rR i64 2 o (inL xs m), rB g2 27 ([.bool false, .string ⟨#[]⟩, .int .i64 0, .slice none 0 0]), rB g3 25 ([.string (mkS (inN xs)), .int .i64 (inZ xs), o])] := Hold.re H9 [2, 0, 1] (by kernel_rfl) (by rfl)
            clear H9
            obtain ⟨Fd12, hFd12, nd12, Kd12, Xd12, sd12⟩ := Hold.frontx (Γ := [rR i64 2 o (inL xs m)]) (Δ := [rB g2 27 ([.bool false, .string ⟨#[]⟩, .int .i64 0, .slice none 0 0]), rB g3 25 ([.string (mkS (inN xs)), .int .i64 (inZ xs), o])]) H10
            have H12d0 : Hold w11 Fd12 w11 [rR i64 2 o (inL xs m)] := Hold.begin hFd12 nd12
            refine ⟨fun w' => Ch Fd12 w11 w', Ch.refl _ _, ?_⟩
            obtain ⟨_, ⟨rfl, b13⟩, x13⟩ := Xd12 1 (rB g3 25 ([.string (mkS (inN xs)), .int .i64 (inZ xs), o])) rfl
            obtain ⟨F15, us15, R15⟩ := Kd.R.sl ((hx.t (Hold.ch H10)).tt (Hold.ch H12d0) (dis_of0 hx.lt sd12)) (18 + 2 * m) (20 + 2 * m) (by first | omega | (simp; omega)) (by first | omega | (simp; omega))
            have e15 : (xs.take (20 + 2 * m)).drop (18 + 2 * m) = (xs.drop (18 + 2 * m)).take 2 := by first | (rw [List.take_length, List.drop_drop]; done) | (rw [List.drop_take]; done) | (simp; done) | (rw [List.drop_take]; congr 1; omega) | (rw [List.take_length, List.drop_drop]; congr 1; omega)
            rw [e15] at R15
            refine edt 0 rfl (by kernel_rfl) (fun w' hS => fa Tryd.underlying25 rfl ti23 rfl y3) (edt 1 rfl (by kernel_rfl) (fun w' hS => ldb Tryd.underlying23 rfl rfl (hS.b b13 (x13 _ (by simp))) rfl) (edt 2 rfl (by kernel_rfl) (fun w' hS => mv y0) (edt 3 rfl (by kernel_rfl) (fun w' hS => mv y5) (edt 4 rfl (by kernel_rfl) (fun w' hS => ml (a := 2) (b := (m : Int)) (2 * (m : Int)) rfl rfl (by omega)) (edt 5 rfl (by kernel_rfl) (fun w' hS => ad (a := 18) (b := 2 * (m : Int)) (((18 + 2 * m : Nat) : Int)) rfl rfl (by omega)) (edt 6 rfl (by kernel_rfl) (fun w' hS => mv y5) (edt 7 rfl (by kernel_rfl) (fun w' hS => ml (a := 2) (b := (m : Int)) (2 * (m : Int)) rfl rfl (by omega)) (edt 8 rfl (by kernel_rfl) (fun w' hS => ad (a := 20) (b := 2 * (m : Int)) (((20 + 2 * m : Nat) : Int)) rfl rfl (by omega)) (edt 9 rfl (by kernel_rfl) (fun w' hS => slr (18 + 2 * m) (20 + 2 * m) Tryd.underlying22 ti5 ((hx.t (Hold.ch H10)).tt hS (dis_of0 hx.lt sd12)) rfl rfl rfl (by omega)) (ed1 10 (by kernel_rfl) <| euc rfl go38 (ac rfl an) (l2Number R15 (by simp; omega) (ok8_take (ok8_drop ok _) _) (Int.le_trans z6 (by omega))) ?_))))))))))
            rintro r wn ⟨rfl, Hn⟩
            have H11d : Hold w11 Fd12 wn [rR i64 2 o (inL xs m)] := Hold.news H12d0 Hn
            clear H12d0
            clear Hn
            refine ⟨.inr (Hold.ch H11d), ?_⟩
            refine ed1 11 (by kernel_rfl) <| euf rfl (xbs1 (cs := [.int .i64 (unbig ((xs.drop (18 + 2 * m)).take 2))]) Tryd.underlying23 ti2 rfl rfl rfl (cel1 rfl) rfl) ?_
            rintro _ w16 ⟨g57, e16, rfl, -, b16, c16⟩
            have H12d : Hold w11 Fd12 w16 [rR i64 2 o (inL xs m), rB g57 2 ([.int .i64 (unbig ((xs.drop (18 + 2 * m)).take 2))])] := Hold.newB H11d e16 b16 c16
            clear H11d
            clear e16 b16 c16
            refine ⟨.inr (Hold.ch H12d), ?_⟩
            have b18 : B w16 g57 2 ([.int .i64 (unbig ((xs.drop (18 + 2 * m)).take 2))]) := Hold.blk H12d 1 rfl
            obtain ⟨F19, P19, n19, s19, K19⟩ := Hold.pick H12d 0 rfl
            replace P19 : Kd.W i64 2 w16 F19 o (inL xs m) := P19
            refine ed1 12 (by kernel_rfl) <| euf rfl (xapb (ys := [unbig ((xs.drop (18 + 2 * m)).take 2)]) Tryd.underlying23 ti2 rfl rfl rfl P19 b18 (els_one (R := Kd.O i64 _) (show Kd.O i64 _ [] (unbig ((xs.drop (18 + 2 * m)).take 2)) _ from ⟨rfl, rfl⟩)) (nodup_nil n19) (by simp [inL_len]; omega)) ?_
            rintro v58_17 w17 ⟨F17, A17⟩
            have H13d : Hold w11 Fd12 w17 [rR i64 2 v58_17 ((inL xs m) ++ [unbig ((xs.drop (18 + 2 * m)).take 2)]), rB g57 2 ([.int .i64 (unbig ((xs.drop (18 + 2 * m)).take 2))])] := Hold.apd K19 P19 A17 rfl
            clear H12d
            clear A17 K19 P19 n19 s19
            refine ⟨.inr (Hold.ch H13d), ?_⟩
            have H14 : Hold w [] w17 [rR i64 2 v58_17 ((inL xs m) ++ [unbig ((xs.drop (18 + 2 * m)).take 2)]), rB g57 2 ([.int .i64 (unbig ((xs.drop (18 + 2 * m)).take 2))]), rB g2 27 ([.bool false, .string ⟨#[]⟩, .int .i64 0, .slice none 0 0]), rB g3 25 ([.string (mkS (inN xs)), .int .i64 (inZ xs), o])] := Hold.call Kd12 H13d
            clear H13d H10
            have b20 : B w17 g3 25 ([.string (mkS (inN xs)), .int .i64 (inZ xs), o]) := Hold.blk H14 3 rfl
            obtain ⟨_, R22⟩ : ∃ F, Kd.R i64 w17 F v58_17 ((inL xs m) ++ [unbig ((xs.drop (18 + 2 * m)).take 2)]) := Hold.row H14 0 rfl
            refine edt 13 rfl (by kernel_rfl) (fun w' hS => fa Tryd.underlying25 rfl ti23 rfl y3) (ed1 14 (by kernel_rfl) <| euf0 rfl (xst (vs := [v58_17]) ti23 rfl rfl (cel1 (R22).oneCell) b20 rfl (Nat.le_of_ble_eq_true rfl) (ones1 (R22).oneCell)) ?_)
            rintro w21 ⟨-, b21, c21⟩
            have H15 : Hold w [] w21 [rR i64 2 v58_17 ((inL xs m) ++ [unbig ((xs.drop (18 + 2 * m)).take 2)]), rB g57 2 ([.int .i64 (unbig ((xs.drop (18 + 2 * m)).take 2))]), rB g2 27 ([.bool false, .string ⟨#[]⟩, .int .i64 0, .slice none 0 0]), rB g3 25 ([.string (mkS (inN xs)), .int .i64 (inZ xs), v58_17])] := Hold.setB H14 3 rfl b21 c21 rfl
            clear H14
            clear b21 c21
            refine ⟨.inl (by kernel_rfl), ?_⟩
            refine edd (by kernel_rfl) ?_
            refine be ?_
            refine gen (fun ρ => ρ 0 = v ∧ ρ 2 = .pointer (some ⟨g2, 0, none⟩) ∧ ρ 3 = .pointer (some ⟨g3, 0, none⟩) ∧ ρ 5 = .int .i64 (m : Int) ∧ True) ⟨y0, y2, y3, y5, trivial⟩ ?_
            rintro ρ ⟨z0, z2, z3, z5, -⟩
            refine rg (r (mv z5) (r (ad (a := (m : Int)) (b := 1) ((m : Int) + 1) rfl rfl (by omega)) (r (sa rfl) (re ?_))))
            have H16 : Hold w [] w21 [rB g2 27 ([.bool false, .string ⟨#[]⟩, .int .i64 0, .slice none 0 0]), rB g3 25 ([.string (mkS (inN xs)), .int .i64 (inZ xs), v58_17]), rR i64 2 v58_17 ((inL xs m) ++ [unbig ((xs.drop (18 + 2 * m)).take 2)])] := (show Hold w [] w21 ([rB g2 27 ([.bool false, .string ⟨#[]⟩, .int .i64 0, .slice none 0 0]), rB g3 25 ([.string (mkS (inN xs)), .int .i64 (inZ xs), v58_17]), rR i64 2 v58_17 ((inL xs m) ++ [unbig ((xs.drop (18 + 2 * m)).take 2)])] ++ [rB g57 2 ([.int .i64 (unbig ((xs.drop (18 + 2 * m)).take 2))])]) from Hold.re H15 [2, 3, 0, 1] (by kernel_rfl) (by rfl)).drop
            clear H15
            exact ag (m + 1, v58_17) ⟨z0, z2, z3, rfl, (by rw [inL_succ]; exact H16), by omega⟩ (by first | omega | (dsimp only; omega))
          · have em : m = ((inZ xs + 63) / 64).toNat := by omega
            subst em
            have hns : (mkS (inN xs)).size ≤ 9223372036854775807 := by rw [mkS_size, hn]; simp; omega
            have okn : ok8 (inN xs) := by rw [hn]; exact ok8_take ok _
            refine ex rfl (sq (sq ?_))
            refine rde mixed ?_
            intro w11 c11
            have H9 : Hold w [] w11 [rB g2 27 ([.bool false, .string ⟨#[]⟩, .int .i64 0, .slice none 0 0]), rB g3 25 ([.string (mkS (inN xs)), .int .i64 (inZ xs), o]), rR i64 2 o (inLs xs)] := Hold.t H8 c11
            clear H8
            clear c11
            have H12d0 : Hold w11 [] w11 [] := Hold.start w11
            refine ⟨fun w' => Ch [] w11 w', Ch.refl _ _, ?_⟩
            have b13 : B w11 g3 25 ([.string (mkS (inN xs)), .int .i64 (inZ xs), o]) := Hold.blk H9 1 rfl
            obtain ⟨_, R15⟩ : ∃ F, Kd.R i64 w11 F o (inLs xs) := Hold.row H9 2 rfl
            refine edt 0 rfl (by kernel_rfl) (fun w' hS => lab [.string (mkS (inN xs)), .int .i64 (inZ xs), o] Tryd.underlying25 rfl ti25 y3 (hS.b0 b13) rfl rfl) (edt 3 rfl (by kernel_rfl) (fun w' hS => mv y0) (edt 4 rfl (by kernel_rfl) (fun w' hS => cvbs Tryd.underlying22 Tryd.underlying5 Tryd.underlying9 ((hx.t (Hold.ch H9)).t hS) rfl) (ed1 1 (by kernel_rfl) <| euc rfl go17 (ac rfl an) (spec_EncodeInode hns (R15.t (Hold.ch H12d0)) (by simp [inL_len]; omega)) ?_)))
            rintro r9 we ⟨e9, He⟩
            rw [nums8_mkS okn] at He
            have H10d : Hold w11 [] we [rR u8 e9 r9 (encIno (inN xs) (inZ xs) (inLs xs))] := Hold.news H12d0 He
            clear H12d0
            clear He
            refine ⟨.inr (Hold.ch H10d), ?_⟩
            obtain ⟨_, R16⟩ : ∃ F, Kd.R u8 we F r9 (encIno (inN xs) (inZ xs) (inLs xs)) := Hold.row H10d 0 rfl
            refine ed1 2 (by kernel_rfl) <| eur rfl (cvbs Tryd.underlying22 Tryd.underlying5 Tryd.underlying9 R16 rfl) (.inr (Hold.ch H10d)) ?_
            have H11 : Hold w [] we [rB g2 27 ([.bool false, .string ⟨#[]⟩, .int .i64 0, .slice none 0 0]), rB g3 25 ([.string (mkS (inN xs)), .int .i64 (inZ xs), o]), rR i64 2 o (inLs xs), rR u8 e9 r9 (encIno (inN xs) (inZ xs) (inLs xs))] := Hold.news H9 H10d
            clear H10d H9
            refine ed1 5 (by kernel_rfl) <| eur rfl (sne rfl rfl) (.inl (by kernel_rfl)) ?_
            refine edd (by kernel_rfl) ?_
            refine cpn rfl (fun he => ?_) (fun he => ?_)
            · refine sq ?_
              refine gen (fun ρ => ρ 2 = .pointer (some ⟨g2, 0, none⟩) ∧ ρ 3 = .pointer (some ⟨g3, 0, none⟩) ∧ True) ⟨y2, y3, trivial⟩ ?_
              rintro ρ ⟨z2, z3, -⟩
              have b17 : B we g2 27 ([.bool false, .string ⟨#[]⟩, .int .i64 0, .slice none 0 0]) := Hold.blk H11 0 rfl
              refine rg (r (bd (r := [.bool false, .string ⟨#[]⟩, .int .i64 0, .slice none 0 0]) ti27 pl27 pn rfl) (ef0 (xst (vs := [.bool false, .string ⟨#[]⟩, .int .i64 0, .slice none 0 0]) ti27 z2 rfl rfl b17 rfl (Nat.le_of_ble_eq_true rfl) (one_all rfl)) ?_))
              rintro w18 ⟨-, b18, c18⟩
              have H12 : Hold w [] w18 [rB g2 27 ([.bool false, .string ⟨#[]⟩, .int .i64 0, .slice none 0 0]), rB g3 25 ([.string (mkS (inN xs)), .int .i64 (inZ xs), o]), rR i64 2 o (inLs xs), rR u8 e9 r9 (encIno (inN xs) (inZ xs) (inLs xs))] := Hold.setB H11 0 rfl b18 c18 rfl
              clear H11
              clear b18 c18
              refine re (rt ?_)
              have hD : ¬ decI xs := fun e => he ((decI_iff ok h64').2 e)
              rw [decide_eq_false hD, if_neg hD, if_neg hD, if_neg hD]
              have H13 : Hold w [] w18 [rB g2 27 ([.bool false, .string ⟨#[]⟩, .int .i64 0, .slice none 0 0]), rB g3 25 ([.string (mkS (inN xs)), .int .i64 (inZ xs), o]), rR i64 2 o (inLs xs), rR u8 e9 r9 (encIno (inN xs) (inZ xs) (inLs xs)), rR i64 2 (.slice none 0 0) ([])] := Hold.nilrow i64 2 H12
              clear H12
              have b19 : B w18 g2 27 ([.bool false, .string ⟨#[]⟩, .int .i64 0, .slice none 0 0]) := Hold.blk H13 0 rfl
              have H14 : Hold w [] w18 [rR i64 2 (.slice none 0 0) ([])] := (show Hold w [] w18 ([rR i64 2 (.slice none 0 0) ([])] ++ [rB g2 27 ([.bool false, .string ⟨#[]⟩, .int .i64 0, .slice none 0 0]), rB g3 25 ([.string (mkS (inN xs)), .int .i64 (inZ xs), o]), rR i64 2 o (inLs xs), rR u8 e9 r9 (encIno (inN xs) (inZ xs) (inLs xs))]) from Hold.re H13 [4, 0, 1, 2, 3] (by kernel_rfl) (by rfl)).drop
              clear H13
              exact finc  (cs := [.bool false, .string ⟨#[]⟩, .int .i64 0, .slice none 0 0]) Tryd.results7 Tryd.underlying27 rfl ti27 z2 b19 rfl  ⟨_, rfl, H14⟩
            · have hD := (decI_iff ok h64').1 he
              rw [decide_eq_true hD, if_pos hD, if_pos hD, if_pos hD]
              refine sk (sq ?_)
              refine gen (fun ρ => ρ 2 = .pointer (some ⟨g2, 0, none⟩) ∧ ρ 3 = .pointer (some ⟨g3, 0, none⟩) ∧ True) ⟨y2, y3, trivial⟩ ?_
              rintro ρ ⟨z2, z3, -⟩
              have b17 : B we g3 25 ([.string (mkS (inN xs)), .int .i64 (inZ xs), o]) := Hold.blk H11 1 rfl
              have b18 : B we g2 27 ([.bool false, .string ⟨#[]⟩, .int .i64 0, .slice none 0 0]) := Hold.blk H11 0 rfl
              obtain ⟨_, R20⟩ : ∃ F, Kd.R i64 we F o (inLs xs) := Hold.row H11 2 rfl
              refine rg (r (lab [.string (mkS (inN xs)), .int .i64 (inZ xs), o] Tryd.underlying25 rfl ti25 z3 b17 rfl rfl) (r (bd (r := [.bool true, .string (mkS (inN xs)), .int .i64 (inZ xs), o]) ti27 pl27 (pc rfl (cel1 rfl) (pc rfl rfl pn)) rfl) (ef0 (xst (vs := [.bool true, .string (mkS (inN xs)), .int .i64 (inZ xs), o]) ti27 z2 rfl rfl b18 rfl (Nat.le_of_ble_eq_true rfl) (oc rfl (oc rfl (oc rfl (oc (R20).oneCell on))))) ?_)))
              rintro w19 ⟨-, b19, c19⟩
              have H12 : Hold w [] w19 [rB g2 27 ([.bool true, .string (mkS (inN xs)), .int .i64 (inZ xs), o]), rB g3 25 ([.string (mkS (inN xs)), .int .i64 (inZ xs), o]), rR i64 2 o (inLs xs), rR u8 e9 r9 (encIno (inN xs) (inZ xs) (inLs xs))] := Hold.setB H11 0 rfl b19 c19 rfl
              clear H11
              clear b19 c19
              refine re (rt ?_)
              have b21 : B w19 g2 27 ([.bool true, .string (mkS (inN xs)), .int .i64 (inZ xs), o]) := Hold.blk H12 0 rfl
              have H13 : Hold w [] w19 [rR i64 2 o (inLs xs)] := (show Hold w [] w19 ([rR i64 2 o (inLs xs)] ++ [rB g2 27 ([.bool true, .string (mkS (inN xs)), .int .i64 (inZ xs), o]), rB g3 25 ([.string (mkS (inN xs)), .int .i64 (inZ xs), o]), rR u8 e9 r9 (encIno (inN xs) (inZ xs) (inLs xs))]) from Hold.re H12 [2, 0, 1, 3] (by kernel_rfl) (by rfl)).drop
              clear H12
              exact finc  (cs := [.bool true, .string (mkS (inN xs)), .int .i64 (inZ xs), o]) Tryd.results7 Tryd.underlying27 rfl ti27 z2 b21 rfl  ⟨_, rfl, H13⟩
    · have b7 : B w505 g3 25 ([.string (mkS (xs.take i)), .int .i64 (inZ xs), .slice none 0 0]) := Hold.blk H5 1 rfl
      refine gn rfl rfl rfl (gn rfl rfl rfl (gn rfl rfl rfl (gn rfl rfl rfl (gn rfl rfl rfl (r (pk rfl rfl) (re (cf rfl (ex rfl (sq (sq (rg (r (fa Tryd.underlying25 rfl ti2 rfl y3) (r (ldb Tryd.underlying2 rfl rfl b7 rfl) (r (bi rfl rfl rfl) (re ?_)))))))))))))))
      have hn : inN xs = xs.take i := inN_cut hi (by omega) hnz (.inl (by omega))
      rw [← hn] at H5
      refine cp rfl (fun hz => ?_) (fun hz => ?_)
      · refine sq ?_
        refine gen (fun ρ => ρ 0 = v ∧ ρ 2 = .pointer (some ⟨g2, 0, none⟩) ∧ ρ 3 = .pointer (some ⟨g3, 0, none⟩) ∧ True) ⟨y0, y2, y3, trivial⟩ ?_
        rintro ρ ⟨z0, z2, z3, -⟩
        have b8 : B w505 g2 27 ([.bool false, .string ⟨#[]⟩, .int .i64 0, .slice none 0 0]) := Hold.blk H5 0 rfl
        refine rg (r (bd (r := [.bool false, .string ⟨#[]⟩, .int .i64 0, .slice none 0 0]) ti27 pl27 pn rfl) (ef0 (xst (vs := [.bool false, .string ⟨#[]⟩, .int .i64 0, .slice none 0 0]) ti27 z2 rfl rfl b8 rfl (Nat.le_of_ble_eq_true rfl) (one_all rfl)) ?_))
        rintro w9 ⟨-, b9, c9⟩
        have H6 : Hold w [] w9 [rB g2 27 ([.bool false, .string ⟨#[]⟩, .int .i64 0, .slice none 0 0]), rB g3 25 ([.string (mkS (inN xs)), .int .i64 (inZ xs), .slice none 0 0])] := Hold.setB H5 0 rfl b9 c9 rfl
        clear H5
        clear b9 c9
        refine re (rt ?_)
        have hD : ¬ decI xs := fun e => by have := e.2.1.2.2.1; omega
        rw [decide_eq_false hD, if_neg hD, if_neg hD, if_neg hD]
        have H7 : Hold w [] w9 [rB g2 27 ([.bool false, .string ⟨#[]⟩, .int .i64 0, .slice none 0 0]), rB g3 25 ([.string (mkS (inN xs)), .int .i64 (inZ xs), .slice none 0 0]), rR i64 2 (.slice none 0 0) ([])] := Hold.nilrow i64 2 H6
        clear H6
        have b10 : B w9 g2 27 ([.bool false, .string ⟨#[]⟩, .int .i64 0, .slice none 0 0]) := Hold.blk H7 0 rfl
        have H8 : Hold w [] w9 [rR i64 2 (.slice none 0 0) ([])] := (show Hold w [] w9 ([rR i64 2 (.slice none 0 0) ([])] ++ [rB g2 27 ([.bool false, .string ⟨#[]⟩, .int .i64 0, .slice none 0 0]), rB g3 25 ([.string (mkS (inN xs)), .int .i64 (inZ xs), .slice none 0 0])]) from Hold.re H7 [2, 0, 1] (by kernel_rfl) (by rfl)).drop
        clear H7
        exact finc  (cs := [.bool false, .string ⟨#[]⟩, .int .i64 0, .slice none 0 0]) Tryd.results7 Tryd.underlying27 rfl ti27 z2 b10 rfl  ⟨_, rfl, H8⟩
      · have H6 : Hold w [] w505 [rB g2 27 ([.bool false, .string ⟨#[]⟩, .int .i64 0, .slice none 0 0]), rB g3 25 ([.string (mkS (inN xs)), .int .i64 (inZ xs), .slice none 0 0]), rR i64 2 (.slice none 0 0) ([])] := Hold.nilrow i64 2 H5
        clear H5
        refine sk (sq (sq ?_))
        refine gen (fun ρ => ρ 0 = v ∧ ρ 2 = .pointer (some ⟨g2, 0, none⟩) ∧ ρ 3 = .pointer (some ⟨g3, 0, none⟩) ∧ True) ⟨y0, y2, y3, trivial⟩ ?_
        rintro ρ ⟨z0, z2, z3, -⟩
        refine rg (r (sa rfl) (re (bl ?_)))
        refine lp (α := Nat × Value) (fun (m, o) ρ w' => ρ 0 = v ∧ ρ 2 = .pointer (some ⟨g2, 0, none⟩) ∧ ρ 3 = .pointer (some ⟨g3, 0, none⟩) ∧ ρ 5 = .int .i64 (m : Int) ∧ Hold w [] w' [rB g2 27 ([.bool false, .string ⟨#[]⟩, .int .i64 0, .slice none 0 0]), rB g3 25 ([.string (mkS (inN xs)), .int .i64 (inZ xs), o]), rR i64 2 o (inL xs m)] ∧ (m : Int) ≤ (inZ xs + 63) / 64) (fun (m, o) => ((inZ xs + 63) / 64 - m).toNat) (0, .slice none 0 0) ?_ ?_
        · exact ⟨z0, z2, z3, rfl, H6, by omega⟩
        clear H6
        rintro ⟨m, o⟩ ρ w507 ⟨y0, y2, y3, y5, H7, hm⟩
        have b8 : B w507 g3 25 ([.string (mkS (inN xs)), .int .i64 (inZ xs), o]) := Hold.blk H7 1 rfl
        refine sq (sq (rg (r (mv y5) (r (fa Tryd.underlying25 rfl ti2 rfl y3) (r (ldb Tryd.underlying2 rfl rfl b8 rfl) (cl go39 (l2Blocks (n := inZ xs) (by omega)) (ac rfl an) ?_))))))
        rintro r wb ⟨rfl, cb⟩
        have H8 : Hold w [] wb [rB g2 27 ([.bool false, .string ⟨#[]⟩, .int .i64 0, .slice none 0 0]), rB g3 25 ([.string (mkS (inN xs)), .int .i64 (inZ xs), o]), rR i64 2 o (inL xs m)] := Hold.t H7 cb
        clear H7
        clear cb
        refine r (bi rfl rfl rfl) (re ?_)
        refine cp rfl (fun h => ?_) (fun h => ?_)
        · have hm' : 18 + 2 * m + 2 ≤ 64 := by omega
          obtain ⟨e2, z5, z6⟩ := two_id ok (k := 18 + 2 * m) (by omega)
          refine sk (sq (bl ?_))
          refine rde mixed ?_
          intro w10 c10
          have H9 : Hold w [] w10 [rB g2 27 ([.bool false, .string ⟨#[]⟩, .int .i64 0, .slice none 0 0]), rB g3 25 ([.string (mkS (inN xs)), .int .i64 (inZ xs), o]), rR i64 2 o (inL xs m)] := Hold.t H8 c10
          clear H8
          clear c10
          have H10 : Hold w [] w10 [rR i64 2 o (inL xs m), rB g2 27 ([.bool false, .string ⟨#[]⟩, .int .i64 0, .slice none 0 0]), rB g3 25 ([.string (mkS (inN xs)), .int .i64 (inZ xs), o])] := Hold.re H9 [2, 0, 1] (by kernel_rfl) (by rfl)
          clear H9
          obtain ⟨Fd11, hFd11, nd11, Kd11, Xd11, sd11⟩ := Hold.frontx (Γ := [rR i64 2 o (inL xs m)]) (Δ := [rB g2 27 ([.bool false, .string ⟨#[]⟩, .int .i64 0, .slice none 0 0]), rB g3 25 ([.string (mkS (inN xs)), .int .i64 (inZ xs), o])]) H10
          have H11d0 : Hold w10 Fd11 w10 [rR i64 2 o (inL xs m)] := Hold.begin hFd11 nd11
          refine ⟨fun w' => Ch Fd11 w10 w', Ch.refl _ _, ?_⟩
          obtain ⟨_, ⟨rfl, b12⟩, x12⟩ := Xd11 1 (rB g3 25 ([.string (mkS (inN xs)), .int .i64 (inZ xs), o])) rfl
          obtain ⟨F14, us14, R14⟩ := Kd.R.sl ((hx.t (Hold.ch H10)).tt (Hold.ch H11d0) (dis_of0 hx.lt sd11)) (18 + 2 * m) (20 + 2 * m) (by first | omega | (simp; omega)) (by first | omega | (simp; omega))
          have e14 : (xs.take (20 + 2 * m)).drop (18 + 2 * m) = (xs.drop (18 + 2 * m)).take 2 := by first | (rw [List.take_length, List.drop_drop]; done) | (rw [List.drop_take]; done) | (simp; done) | (rw [List.drop_take]; congr 1; omega) | (rw [List.take_length, List.drop_drop]; congr 1; omega)
          rw [e14] at R14
          refine edt 0 rfl (by kernel_rfl) (fun w' hS => fa Tryd.underlying25 rfl ti23 rfl y3) (edt 1 rfl (by kernel_rfl) (fun w' hS => ldb Tryd.underlying23 rfl rfl (hS.b b12 (x12 _ (by simp))) rfl) (edt 2 rfl (by kernel_rfl) (fun w' hS => mv y0) (edt 3 rfl (by kernel_rfl) (fun w' hS => mv y5) (edt 4 rfl (by kernel_rfl) (fun w' hS => ml (a := 2) (b := (m : Int)) (2 * (m : Int)) rfl rfl (by omega)) (edt 5 rfl (by kernel_rfl) (fun w' hS => ad (a := 18) (b := 2 * (m : Int)) (((18 + 2 * m : Nat) : Int)) rfl rfl (by omega)) (edt 6 rfl (by kernel_rfl) (fun w' hS => mv y5) (edt 7 rfl (by kernel_rfl) (fun w' hS => ml (a := 2) (b := (m : Int)) (2 * (m : Int)) rfl rfl (by omega)) (edt 8 rfl (by kernel_rfl) (fun w' hS => ad (a := 20) (b := 2 * (m : Int)) (((20 + 2 * m : Nat) : Int)) rfl rfl (by omega)) (edt 9 rfl (by kernel_rfl) (fun w' hS => slr (18 + 2 * m) (20 + 2 * m) Tryd.underlying22 ti5 ((hx.t (Hold.ch H10)).tt hS (dis_of0 hx.lt sd11)) rfl rfl rfl (by omega)) (ed1 10 (by kernel_rfl) <| euc rfl go38 (ac rfl an) (l2Number R14 (by simp; omega) (ok8_take (ok8_drop ok _) _) (Int.le_trans z6 (by omega))) ?_))))))))))
          rintro r wn ⟨rfl, Hn⟩
          have H11d : Hold w10 Fd11 wn [rR i64 2 o (inL xs m)] := Hold.news H11d0 Hn
          clear H11d0
          clear Hn
          refine ⟨.inr (Hold.ch H11d), ?_⟩
          refine ed1 11 (by kernel_rfl) <| euf rfl (xbs1 (cs := [.int .i64 (unbig ((xs.drop (18 + 2 * m)).take 2))]) Tryd.underlying23 ti2 rfl rfl rfl (cel1 rfl) rfl) ?_
          rintro _ w15 ⟨g57, e15, rfl, -, b15, c15⟩
          have H12d : Hold w10 Fd11 w15 [rR i64 2 o (inL xs m), rB g57 2 ([.int .i64 (unbig ((xs.drop (18 + 2 * m)).take 2))])] := Hold.newB H11d e15 b15 c15
          clear H11d
          clear e15 b15 c15
          refine ⟨.inr (Hold.ch H12d), ?_⟩
          have b17 : B w15 g57 2 ([.int .i64 (unbig ((xs.drop (18 + 2 * m)).take 2))]) := Hold.blk H12d 1 rfl
          obtain ⟨F18, P18, n18, s18, K18⟩ := Hold.pick H12d 0 rfl
          replace P18 : Kd.W i64 2 w15 F18 o (inL xs m) := P18
          refine ed1 12 (by kernel_rfl) <| euf rfl (xapb (ys := [unbig ((xs.drop (18 + 2 * m)).take 2)]) Tryd.underlying23 ti2 rfl rfl rfl P18 b17 (els_one (R := Kd.O i64 _) (show Kd.O i64 _ [] (unbig ((xs.drop (18 + 2 * m)).take 2)) _ from ⟨rfl, rfl⟩)) (nodup_nil n18) (by simp [inL_len]; omega)) ?_
          rintro v58_16 w16 ⟨F16, A16⟩
          have H13d : Hold w10 Fd11 w16 [rR i64 2 v58_16 ((inL xs m) ++ [unbig ((xs.drop (18 + 2 * m)).take 2)]), rB g57 2 ([.int .i64 (unbig ((xs.drop (18 + 2 * m)).take 2))])] := Hold.apd K18 P18 A16 rfl
          clear H12d
          clear A16 K18 P18 n18 s18
          refine ⟨.inr (Hold.ch H13d), ?_⟩
          have H14 : Hold w [] w16 [rR i64 2 v58_16 ((inL xs m) ++ [unbig ((xs.drop (18 + 2 * m)).take 2)]), rB g57 2 ([.int .i64 (unbig ((xs.drop (18 + 2 * m)).take 2))]), rB g2 27 ([.bool false, .string ⟨#[]⟩, .int .i64 0, .slice none 0 0]), rB g3 25 ([.string (mkS (inN xs)), .int .i64 (inZ xs), o])] := Hold.call Kd11 H13d
          clear H13d H10
          have b19 : B w16 g3 25 ([.string (mkS (inN xs)), .int .i64 (inZ xs), o]) := Hold.blk H14 3 rfl
          obtain ⟨_, R21⟩ : ∃ F, Kd.R i64 w16 F v58_16 ((inL xs m) ++ [unbig ((xs.drop (18 + 2 * m)).take 2)]) := Hold.row H14 0 rfl
          refine edt 13 rfl (by kernel_rfl) (fun w' hS => fa Tryd.underlying25 rfl ti23 rfl y3) (ed1 14 (by kernel_rfl) <| euf0 rfl (xst (vs := [v58_16]) ti23 rfl rfl (cel1 (R21).oneCell) b19 rfl (Nat.le_of_ble_eq_true rfl) (ones1 (R21).oneCell)) ?_)
          rintro w20 ⟨-, b20, c20⟩
          have H15 : Hold w [] w20 [rR i64 2 v58_16 ((inL xs m) ++ [unbig ((xs.drop (18 + 2 * m)).take 2)]), rB g57 2 ([.int .i64 (unbig ((xs.drop (18 + 2 * m)).take 2))]), rB g2 27 ([.bool false, .string ⟨#[]⟩, .int .i64 0, .slice none 0 0]), rB g3 25 ([.string (mkS (inN xs)), .int .i64 (inZ xs), v58_16])] := Hold.setB H14 3 rfl b20 c20 rfl
          clear H14
          clear b20 c20
          refine ⟨.inl (by kernel_rfl), ?_⟩
          refine edd (by kernel_rfl) ?_
          refine be ?_
          refine gen (fun ρ => ρ 0 = v ∧ ρ 2 = .pointer (some ⟨g2, 0, none⟩) ∧ ρ 3 = .pointer (some ⟨g3, 0, none⟩) ∧ ρ 5 = .int .i64 (m : Int) ∧ True) ⟨y0, y2, y3, y5, trivial⟩ ?_
          rintro ρ ⟨z0, z2, z3, z5, -⟩
          refine rg (r (mv z5) (r (ad (a := (m : Int)) (b := 1) ((m : Int) + 1) rfl rfl (by omega)) (r (sa rfl) (re ?_))))
          have H16 : Hold w [] w20 [rB g2 27 ([.bool false, .string ⟨#[]⟩, .int .i64 0, .slice none 0 0]), rB g3 25 ([.string (mkS (inN xs)), .int .i64 (inZ xs), v58_16]), rR i64 2 v58_16 ((inL xs m) ++ [unbig ((xs.drop (18 + 2 * m)).take 2)])] := (show Hold w [] w20 ([rB g2 27 ([.bool false, .string ⟨#[]⟩, .int .i64 0, .slice none 0 0]), rB g3 25 ([.string (mkS (inN xs)), .int .i64 (inZ xs), v58_16]), rR i64 2 v58_16 ((inL xs m) ++ [unbig ((xs.drop (18 + 2 * m)).take 2)])] ++ [rB g57 2 ([.int .i64 (unbig ((xs.drop (18 + 2 * m)).take 2))])]) from Hold.re H15 [2, 3, 0, 1] (by kernel_rfl) (by rfl)).drop
          clear H15
          exact ag (m + 1, v58_16) ⟨z0, z2, z3, rfl, (by rw [inL_succ]; exact H16), by omega⟩ (by first | omega | (dsimp only; omega))
        · have em : m = ((inZ xs + 63) / 64).toNat := by omega
          subst em
          have hns : (mkS (inN xs)).size ≤ 9223372036854775807 := by rw [mkS_size, hn]; simp; omega
          have okn : ok8 (inN xs) := by rw [hn]; exact ok8_take ok _
          refine ex rfl (sq (sq ?_))
          refine rde mixed ?_
          intro w10 c10
          have H9 : Hold w [] w10 [rB g2 27 ([.bool false, .string ⟨#[]⟩, .int .i64 0, .slice none 0 0]), rB g3 25 ([.string (mkS (inN xs)), .int .i64 (inZ xs), o]), rR i64 2 o (inLs xs)] := Hold.t H8 c10
          clear H8
          clear c10
          have H11d0 : Hold w10 [] w10 [] := Hold.start w10
          refine ⟨fun w' => Ch [] w10 w', Ch.refl _ _, ?_⟩
          have b12 : B w10 g3 25 ([.string (mkS (inN xs)), .int .i64 (inZ xs), o]) := Hold.blk H9 1 rfl
          obtain ⟨_, R14⟩ : ∃ F, Kd.R i64 w10 F o (inLs xs) := Hold.row H9 2 rfl
          refine edt 0 rfl (by kernel_rfl) (fun w' hS => lab [.string (mkS (inN xs)), .int .i64 (inZ xs), o] Tryd.underlying25 rfl ti25 y3 (hS.b0 b12) rfl rfl) (edt 3 rfl (by kernel_rfl) (fun w' hS => mv y0) (edt 4 rfl (by kernel_rfl) (fun w' hS => cvbs Tryd.underlying22 Tryd.underlying5 Tryd.underlying9 ((hx.t (Hold.ch H9)).t hS) rfl) (ed1 1 (by kernel_rfl) <| euc rfl go17 (ac rfl an) (spec_EncodeInode hns (R14.t (Hold.ch H11d0)) (by simp [inL_len]; omega)) ?_)))
          rintro r9 we ⟨e9, He⟩
          rw [nums8_mkS okn] at He
          have H10d : Hold w10 [] we [rR u8 e9 r9 (encIno (inN xs) (inZ xs) (inLs xs))] := Hold.news H11d0 He
          clear H11d0
          clear He
          refine ⟨.inr (Hold.ch H10d), ?_⟩
          obtain ⟨_, R15⟩ : ∃ F, Kd.R u8 we F r9 (encIno (inN xs) (inZ xs) (inLs xs)) := Hold.row H10d 0 rfl
          refine ed1 2 (by kernel_rfl) <| eur rfl (cvbs Tryd.underlying22 Tryd.underlying5 Tryd.underlying9 R15 rfl) (.inr (Hold.ch H10d)) ?_
          have H11 : Hold w [] we [rB g2 27 ([.bool false, .string ⟨#[]⟩, .int .i64 0, .slice none 0 0]), rB g3 25 ([.string (mkS (inN xs)), .int .i64 (inZ xs), o]), rR i64 2 o (inLs xs), rR u8 e9 r9 (encIno (inN xs) (inZ xs) (inLs xs))] := Hold.news H9 H10d
          clear H10d H9
          refine ed1 5 (by kernel_rfl) <| eur rfl (sne rfl rfl) (.inl (by kernel_rfl)) ?_
          refine edd (by kernel_rfl) ?_
          refine cpn rfl (fun he => ?_) (fun he => ?_)
          · refine sq ?_
            refine gen (fun ρ => ρ 2 = .pointer (some ⟨g2, 0, none⟩) ∧ ρ 3 = .pointer (some ⟨g3, 0, none⟩) ∧ True) ⟨y2, y3, trivial⟩ ?_
            rintro ρ ⟨z2, z3, -⟩
            have b16 : B we g2 27 ([.bool false, .string ⟨#[]⟩, .int .i64 0, .slice none 0 0]) := Hold.blk H11 0 rfl
            refine rg (r (bd (r := [.bool false, .string ⟨#[]⟩, .int .i64 0, .slice none 0 0]) ti27 pl27 pn rfl) (ef0 (xst (vs := [.bool false, .string ⟨#[]⟩, .int .i64 0, .slice none 0 0]) ti27 z2 rfl rfl b16 rfl (Nat.le_of_ble_eq_true rfl) (one_all rfl)) ?_))
            rintro w17 ⟨-, b17, c17⟩
            have H12 : Hold w [] w17 [rB g2 27 ([.bool false, .string ⟨#[]⟩, .int .i64 0, .slice none 0 0]), rB g3 25 ([.string (mkS (inN xs)), .int .i64 (inZ xs), o]), rR i64 2 o (inLs xs), rR u8 e9 r9 (encIno (inN xs) (inZ xs) (inLs xs))] := Hold.setB H11 0 rfl b17 c17 rfl
            clear H11
            clear b17 c17
            refine re (rt ?_)
            have hD : ¬ decI xs := fun e => he ((decI_iff ok h64').2 e)
            rw [decide_eq_false hD, if_neg hD, if_neg hD, if_neg hD]
            have H13 : Hold w [] w17 [rB g2 27 ([.bool false, .string ⟨#[]⟩, .int .i64 0, .slice none 0 0]), rB g3 25 ([.string (mkS (inN xs)), .int .i64 (inZ xs), o]), rR i64 2 o (inLs xs), rR u8 e9 r9 (encIno (inN xs) (inZ xs) (inLs xs)), rR i64 2 (.slice none 0 0) ([])] := Hold.nilrow i64 2 H12
            clear H12
            have b18 : B w17 g2 27 ([.bool false, .string ⟨#[]⟩, .int .i64 0, .slice none 0 0]) := Hold.blk H13 0 rfl
            have H14 : Hold w [] w17 [rR i64 2 (.slice none 0 0) ([])] := (show Hold w [] w17 ([rR i64 2 (.slice none 0 0) ([])] ++ [rB g2 27 ([.bool false, .string ⟨#[]⟩, .int .i64 0, .slice none 0 0]), rB g3 25 ([.string (mkS (inN xs)), .int .i64 (inZ xs), o]), rR i64 2 o (inLs xs), rR u8 e9 r9 (encIno (inN xs) (inZ xs) (inLs xs))]) from Hold.re H13 [4, 0, 1, 2, 3] (by kernel_rfl) (by rfl)).drop
            clear H13
            exact finc  (cs := [.bool false, .string ⟨#[]⟩, .int .i64 0, .slice none 0 0]) Tryd.results7 Tryd.underlying27 rfl ti27 z2 b18 rfl  ⟨_, rfl, H14⟩
          · have hD := (decI_iff ok h64').1 he
            rw [decide_eq_true hD, if_pos hD, if_pos hD, if_pos hD]
            refine sk (sq ?_)
            refine gen (fun ρ => ρ 2 = .pointer (some ⟨g2, 0, none⟩) ∧ ρ 3 = .pointer (some ⟨g3, 0, none⟩) ∧ True) ⟨y2, y3, trivial⟩ ?_
            rintro ρ ⟨z2, z3, -⟩
            have b16 : B we g3 25 ([.string (mkS (inN xs)), .int .i64 (inZ xs), o]) := Hold.blk H11 1 rfl
            have b17 : B we g2 27 ([.bool false, .string ⟨#[]⟩, .int .i64 0, .slice none 0 0]) := Hold.blk H11 0 rfl
            obtain ⟨_, R19⟩ : ∃ F, Kd.R i64 we F o (inLs xs) := Hold.row H11 2 rfl
            refine rg (r (lab [.string (mkS (inN xs)), .int .i64 (inZ xs), o] Tryd.underlying25 rfl ti25 z3 b16 rfl rfl) (r (bd (r := [.bool true, .string (mkS (inN xs)), .int .i64 (inZ xs), o]) ti27 pl27 (pc rfl (cel1 rfl) (pc rfl rfl pn)) rfl) (ef0 (xst (vs := [.bool true, .string (mkS (inN xs)), .int .i64 (inZ xs), o]) ti27 z2 rfl rfl b17 rfl (Nat.le_of_ble_eq_true rfl) (oc rfl (oc rfl (oc rfl (oc (R19).oneCell on))))) ?_)))
            rintro w18 ⟨-, b18, c18⟩
            have H12 : Hold w [] w18 [rB g2 27 ([.bool true, .string (mkS (inN xs)), .int .i64 (inZ xs), o]), rB g3 25 ([.string (mkS (inN xs)), .int .i64 (inZ xs), o]), rR i64 2 o (inLs xs), rR u8 e9 r9 (encIno (inN xs) (inZ xs) (inLs xs))] := Hold.setB H11 0 rfl b18 c18 rfl
            clear H11
            clear b18 c18
            refine re (rt ?_)
            have b20 : B w18 g2 27 ([.bool true, .string (mkS (inN xs)), .int .i64 (inZ xs), o]) := Hold.blk H12 0 rfl
            have H13 : Hold w [] w18 [rR i64 2 o (inLs xs)] := (show Hold w [] w18 ([rR i64 2 o (inLs xs)] ++ [rB g2 27 ([.bool true, .string (mkS (inN xs)), .int .i64 (inZ xs), o]), rB g3 25 ([.string (mkS (inN xs)), .int .i64 (inZ xs), o]), rR u8 e9 r9 (encIno (inN xs) (inZ xs) (inLs xs))]) from Hold.re H12 [2, 0, 1, 3] (by kernel_rfl) (by rfl)).drop
            clear H12
            exact finc  (cs := [.bool true, .string (mkS (inN xs)), .int .i64 (inZ xs), o]) Tryd.results7 Tryd.underlying27 rfl ti27 z2 b20 rfl  ⟨_, rfl, H13⟩
end Go.Proofs.YtgpcanjmgdmdhaaDoor
