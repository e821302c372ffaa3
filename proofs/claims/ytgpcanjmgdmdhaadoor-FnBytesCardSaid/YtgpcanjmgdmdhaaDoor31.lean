/-
  CONTRACTS 31: a drawn header; a torn header, in plain Lean. No condition.
-/
import Derived.Test.YtgpcanjmgdmdhaaDoor30
import Derived.Test.YtgpcanjmgdmdhaaDoor25
import Derived.Test.YtgpcanjmgdmdhaaDoorOth
namespace Go.Proofs.YtgpcanjmgdmdhaaDoor
open Go Go.Eng
set_option maxRecDepth 100000
set_option maxHeartbeats 4000000
set_option linter.unusedVariables false
set_option linter.unusedSimpArgs false
theorem unbig_of_big (n : Nat) : ∀ v : Int, 0 ≤ v → v < 256 ^ n → unbig (big v n) = v := by
  induction n with
  | zero => intro v h0 h1; simp at h1; simp [big, unbig]; omega
  | succ n ih =>
    intro v h0 h1
    rw [Int.pow_succ] at h1
    show unbig (big (v / 256) n ++ [v % 256]) = v
    rw [unbig_snoc, ih (v / 256) (by omega) (by omega)]; omega
theorem big_inj {v u : Int} {n : Nat} (h0 : 0 ≤ v ∧ v < 256 ^ n) (h1 : 0 ≤ u ∧ u < 256 ^ n) (h : big v n = big u n) : v = u := by
  rw [← unbig_of_big n v h0.1 h0.2, h, unbig_of_big n u h1.1 h1.2]
theorem encH_0 (q s b : Int) : (encH q s b).take 8 = big q 8 := by
  unfold encH
  rw [List.append_assoc, List.append_assoc, List.append_assoc, List.take_append_of_le_length (by rw [big_len]; omega), List.take_of_length_le (by rw [big_len]; omega)]
theorem encH_8 (q s b : Int) : (encH q s b).drop 56 = big q 8 := by
  have : (big q 8 ++ big s 2 ++ big b 2 ++ List.replicate 44 (0 : Int)).length = 56 := by simp [big_len]
  unfold encH
  rw [List.drop_append_of_le_length (by omega), List.drop_of_length_le (by omega), List.nil_append]
theorem encH_s (q s b : Int) : ((encH q s b).drop 8).take 2 = big s 2 := by
  unfold encH
  rw [List.append_assoc, List.append_assoc, List.append_assoc, List.drop_append_of_le_length (by rw [big_len]; omega), List.drop_of_length_le (by rw [big_len]; omega), List.nil_append, List.take_append_of_le_length (by rw [big_len]; omega), List.take_of_length_le (by rw [big_len]; omega)]
theorem encH_b (q s b : Int) : ((encH q s b).drop 10).take 2 = big b 2 := by
  have : (big q 8 ++ big s 2).length = 10 := by simp [big_len]
  unfold encH
  rw [List.append_assoc, List.append_assoc, List.drop_append_of_le_length (by omega), List.drop_of_length_le (by omega), List.nil_append, List.take_append_of_le_length (by rw [big_len]; omega), List.take_of_length_le (by rw [big_len]; omega)]
theorem p8 : (256 : Int) ^ 8 = 18446744073709551616 := by rfl
theorem p2 : (256 : Int) ^ 2 = 65536 := by rfl
theorem encH_hq {q s b : Int} (h : hdr q s b) : hq (encH q s b) = q ∧ hs_ (encH q s b) = s ∧ hb_ (encH q s b) = b := by
  refine ⟨?_, ?_, ?_⟩
  · rw [hq, encH_0, unbig_of_big 8 q (by omega) (by rw [p8]; omega)]; exact i64_id (by omega)
  · rw [hs_, encH_s, unbig_of_big 2 s (by omega) (by rw [p2]; omega)]; exact i64_id (by omega)
  · rw [hb_, encH_b, unbig_of_big 2 b (by omega) (by rw [p2]; omega)]; exact i64_id (by omega)
theorem encH_dec {q s b : Int} (h : hdr q s b) : decH (encH q s b) := by
  obtain ⟨h1, h2, h3⟩ := encH_hq h
  refine ⟨encH_len q s b, ?_, ?_⟩
  · rw [h1, h2, h3]; exact h
  · rw [h1, h2, h3]
/-- Two headers, the one's first k bytes and the other's rest: none, or one of the two. -/
theorem torn {q s b q' s' b' : Int} (h : hdr q s b) (h' : hdr q' s' b') {k : Nat} (hk : k ≤ 64) (hd : decH ((encH q' s' b').take k ++ (encH q s b).drop k)) (ne : q ≠ q') :
    (hq ((encH q' s' b').take k ++ (encH q s b).drop k), hs_ ((encH q' s' b').take k ++ (encH q s b).drop k), hb_ ((encH q' s' b').take k ++ (encH q s b).drop k)) = (q, s, b) ∨ (hq ((encH q' s' b').take k ++ (encH q s b).drop k), hs_ ((encH q' s' b').take k ++ (encH q s b).drop k), hb_ ((encH q' s' b').take k ++ (encH q s b).drop k)) = (q', s', b') := by
  have la := encH_len q s b
  have lb := encH_len q' s' b'
  have a0 := encH_0 q s b
  have b0 := encH_0 q' s' b'
  have a8 := encH_8 q s b
  have b8 := encH_8 q' s' b'
  obtain ⟨x1, x2, x3⟩ := encH_hq h
  obtain ⟨y1, y2, y3⟩ := encH_hq h'
  obtain ⟨-, hr, he⟩ := hd
  generalize encH q s b = A at *
  generalize encH q' s' b' = B at *
  generalize hM : B.take k ++ A.drop k = M at *
  have m0 := encH_0 (hq M) (hs_ M) (hb_ M)
  have m8 := encH_8 (hq M) (hs_ M) (hb_ M)
  rw [he] at m0 m8
  have inj : ∀ {u v : Int}, 0 ≤ u ∧ u ≤ 1099511627776 → 0 ≤ v ∧ v ≤ 1099511627776 → big u 8 = big v 8 → u = v := fun hu hv e => big_inj (n := 8) (by rw [p8]; omega) (by rw [p8]; omega) e
  have hA : k ≤ 56 → hq M = q := fun hk' => inj (by omega) (by omega) (by
    rw [← m8, ← a8, ← hM, List.drop_append, List.drop_of_length_le (by simp; omega), List.nil_append, List.drop_drop]; congr 1; simp; omega)
  have hB : 8 ≤ k → hq M = q' := fun hk' => inj (by omega) (by omega) (by
    rw [← m0, ← b0, ← hM, List.take_append_of_le_length (by simp; omega), List.take_take]; congr 1; omega)
  by_cases h8 : k < 8
  · left
    have e8 : M.drop 8 = A.drop 8 := by
      rw [← hM, List.drop_append, List.drop_of_length_le (by simp; omega), List.nil_append, List.drop_drop]; congr 1; simp; omega
    have e10 : M.drop 10 = A.drop 10 := by
      rw [← hM, List.drop_append, List.drop_of_length_le (by simp; omega), List.nil_append, List.drop_drop]; congr 1; simp; omega
    rw [hA (by omega), ← x2, ← x3, hs_, hs_, hb_, hb_, e8, e10]
  · by_cases h56 : 56 < k
    · right
      have e8 : (M.drop 8).take 2 = (B.drop 8).take 2 := by
        rw [← hM, List.drop_append_of_le_length (by simp; omega), List.take_append_of_le_length (by simp; omega), List.drop_take, List.take_take]; congr 1; omega
      have e10 : (M.drop 10).take 2 = (B.drop 10).take 2 := by
        rw [← hM, List.drop_append_of_le_length (by simp; omega), List.take_append_of_le_length (by simp; omega), List.drop_take, List.take_take]; congr 1; omega
      rw [hB (by omega), ← y2, ← y3, hs_, hs_, hb_, hb_, e8, e10]
    · exact absurd ((hA (by omega)).symm.trans (hB (by omega))) ne
theorem l2DrawHeader {w : World} {F : List Nat} {g : Nat} {v : Value} {s : Src} (h : Hs w [rB g 141 [v, .int .i64 (s.pt : Int), .int .i64 s.mix, .int .i64 s.size], rR u8 5 v s.code] F) (nd : F.Nodup) (ok : SrcOk s) :
    Ret Tryd.prog 60 #[.pointer (some ⟨g, 0, none⟩)] w (fun r w' => ∃ q t b s', r = .agg #[.int .i64 q, .int .i64 t, .int .i64 b] ∧ SrcOk s' ∧ Hold w F w' [rB g 141 [v, .int .i64 (s'.pt : Int), .int .i64 s'.mix, .int .i64 s'.size], rR u8 5 v s'.code]) := by
  refine enter Tryd.func60 rfl Tryd.ntmps60 (by rfl) (by rfl) ?_
  have H0 : Hold w F w [rB g 141 ([v, .int .i64 (s.pt : Int), .int .i64 s.mix, .int .i64 s.size]), rR u8 5 v s.code] := Hold.begin h nd
  have a1 := nx_0 (n := 700) ok
  have c1 := nx_1 (s := s) (n := 700) (by omega)
  have o1 := nx_ok (n := 700) ok
  obtain ⟨dz1, hz1⟩ : ∃ z, z = (nx s 700).1 := ⟨_, rfl⟩
  obtain ⟨ds1, hs1⟩ : ∃ z, z = (nx s 700).2 := ⟨_, rfl⟩
  rw [← hz1] at a1 c1
  rw [← hs1] at o1
  have a2 := nx_0 (n := 70) o1
  have c2 := nx_1 (s := ds1) (n := 70) (by omega)
  have o2 := nx_ok (n := 70) o1
  obtain ⟨dz2, hz2⟩ : ∃ z, z = (nx ds1 70).1 := ⟨_, rfl⟩
  obtain ⟨ds2, hs2⟩ : ∃ z, z = (nx ds1 70).2 := ⟨_, rfl⟩
  rw [← hz2] at a2 c2
  rw [← hs2] at o2
  have a3 := nx_0 (n := 20) o2
  have c3 := nx_1 (s := ds2) (n := 20) (by omega)
  have o3 := nx_ok (n := 20) o2
  obtain ⟨dz3, hz3⟩ : ∃ z, z = (nx ds2 20).1 := ⟨_, rfl⟩
  obtain ⟨ds3, hs3⟩ : ∃ z, z = (nx ds2 20).2 := ⟨_, rfl⟩
  rw [← hz3] at a3 c3
  rw [← hs3] at o3
  have a4 := nx_0 (n := 16) o3
  have c4 := nx_1 (s := ds3) (n := 16) (by omega)
  have o4 := nx_ok (n := 16) o3
  obtain ⟨dz4, hz4⟩ : ∃ z, z = (nx ds3 16).1 := ⟨_, rfl⟩
  obtain ⟨ds4, hs4⟩ : ∃ z, z = (nx ds3 16).2 := ⟨_, rfl⟩
  rw [← hz4] at a4 c4
  rw [← hs4] at o4
  refine sq (rg (ef (xal ti46) ?_))
  rintro _ w5 ⟨g2, e5, rfl, -, b5, c5⟩
  have H1 : Hold w F w5 [rB g 141 ([v, .int .i64 (s.pt : Int), .int .i64 s.mix, .int .i64 s.size]), rR u8 5 v s.code, rB g2 46 ([.int .i64 0, .int .i64 0, .int .i64 0])] := Hold.newB H0 e5 b5 c5
  clear H0
  clear e5 b5 c5
  obtain ⟨F6, hF6, n6, s6, K6⟩ := Hold.front (Γ := [rB g 141 ([v, .int .i64 (s.pt : Int), .int .i64 s.mix, .int .i64 s.size]), rR u8 5 v s.code]) (Δ := [rB g2 46 ([.int .i64 0, .int .i64 0, .int .i64 0])]) H1
  refine re (sq (rg (r (mv rfl) (cl go91 (l1Next (s := s) (m := 700) hF6 n6 ok (by omega)) (ac rfl (ac rfl an)) ?_))))
  rintro r wn1 ⟨er1, Hn1⟩
  rw [← hz1] at er1
  rw [← hs1] at Hn1
  subst er1
  have H2 : Hold w F wn1 [rB g 141 ([v, .int .i64 (ds1.pt : Int), .int .i64 ds1.mix, .int .i64 ds1.size]), rR u8 5 v ds1.code, rB g2 46 ([.int .i64 0, .int .i64 0, .int .i64 0])] := Hold.call K6 Hn1
  clear H1
  clear K6 hF6 n6 s6
  clear Hn1
  obtain ⟨F7, hF7, n7, s7, K7⟩ := Hold.front (Γ := [rB g 141 ([v, .int .i64 (ds1.pt : Int), .int .i64 ds1.mix, .int .i64 ds1.size]), rR u8 5 v ds1.code]) (Δ := [rB g2 46 ([.int .i64 0, .int .i64 0, .int .i64 0])]) H2
  refine r (ad (a := 1) (b := dz1) (1 + dz1) rfl rfl (by omega)) (r (mv rfl) (cl go91 (l1Next (s := ds1) (m := 70) hF7 n7 o1 (by omega)) (ac rfl (ac rfl an)) ?_))
  rintro r wn2 ⟨er2, Hn2⟩
  rw [← hz2] at er2
  rw [← hs2] at Hn2
  subst er2
  have H3 : Hold w F wn2 [rB g 141 ([v, .int .i64 (ds2.pt : Int), .int .i64 ds2.mix, .int .i64 ds2.size]), rR u8 5 v ds2.code, rB g2 46 ([.int .i64 0, .int .i64 0, .int .i64 0])] := Hold.call K7 Hn2
  clear H2
  clear K7 hF7 n7 s7
  clear Hn2
  obtain ⟨F8, hF8, n8, s8, K8⟩ := Hold.front (Γ := [rB g 141 ([v, .int .i64 (ds2.pt : Int), .int .i64 ds2.mix, .int .i64 ds2.size]), rR u8 5 v ds2.code]) (Δ := [rB g2 46 ([.int .i64 0, .int .i64 0, .int .i64 0])]) H3
  refine r (mv rfl) (cl go91 (l1Next (s := ds2) (m := 20) hF8 n8 o2 (by omega)) (ac rfl (ac rfl an)) ?_)
  rintro r wn3 ⟨er3, Hn3⟩
  rw [← hz3] at er3
  rw [← hs3] at Hn3
  subst er3
  have H4 : Hold w F wn3 [rB g 141 ([v, .int .i64 (ds3.pt : Int), .int .i64 ds3.mix, .int .i64 ds3.size]), rR u8 5 v ds3.code, rB g2 46 ([.int .i64 0, .int .i64 0, .int .i64 0])] := Hold.call K8 Hn3
  clear H3
  clear K8 hF8 n8 s8
  clear Hn3
  refine r (bd (r := [.int .i64 (1 + dz1), .int .i64 dz2, .int .i64 dz3]) ti46 pl46 (pc rfl (cel1 rfl) (pc rfl (cel1 rfl) (pc rfl (cel1 rfl) pn))) rfl) (ef (xal ti46) ?_)
  rintro _ w9 ⟨g3, e9, rfl, -, b9, c9⟩
  have H5 : Hold w F w9 [rB g 141 ([v, .int .i64 (ds3.pt : Int), .int .i64 ds3.mix, .int .i64 ds3.size]), rR u8 5 v ds3.code, rB g2 46 ([.int .i64 0, .int .i64 0, .int .i64 0]), rB g3 46 ([.int .i64 0, .int .i64 0, .int .i64 0])] := Hold.newB H4 e9 b9 c9
  clear H4
  clear e9 b9 c9
  have b10 : B w9 g3 46 ([.int .i64 0, .int .i64 0, .int .i64 0]) := Hold.blk H5 3 rfl
  refine ef0 (xst (vs := [.int .i64 (1 + dz1), .int .i64 dz2, .int .i64 dz3]) ti46 rfl rfl rfl b10 rfl (Nat.le_of_ble_eq_true rfl) (one_all rfl)) ?_
  rintro w11 ⟨-, b11, c11⟩
  have H6 : Hold w F w11 [rB g 141 ([v, .int .i64 (ds3.pt : Int), .int .i64 ds3.mix, .int .i64 ds3.size]), rR u8 5 v ds3.code, rB g2 46 ([.int .i64 0, .int .i64 0, .int .i64 0]), rB g3 46 ([.int .i64 (1 + dz1), .int .i64 dz2, .int .i64 dz3])] := Hold.setB H5 3 rfl b11 c11 rfl
  clear H5
  clear b11 c11
  refine re (sq ?_)
  refine gen (fun ρ => ρ 0 = .pointer (some ⟨g, 0, none⟩) ∧ ρ 2 = .pointer (some ⟨g2, 0, none⟩) ∧ ρ 3 = .pointer (some ⟨g3, 0, none⟩) ∧ True) ⟨rfl, rfl, rfl, trivial⟩ ?_
  rintro ρ ⟨z0, z2, z3, -⟩
  obtain ⟨F12, hF12, n12, s12, K12⟩ := Hold.front (Γ := [rB g 141 ([v, .int .i64 (ds3.pt : Int), .int .i64 ds3.mix, .int .i64 ds3.size]), rR u8 5 v ds3.code]) (Δ := [rB g2 46 ([.int .i64 0, .int .i64 0, .int .i64 0]), rB g3 46 ([.int .i64 (1 + dz1), .int .i64 dz2, .int .i64 dz3])]) H6
  refine rg (r (mv z0) (cl go91 (l1Next (s := ds3) (m := 16) hF12 n12 o3 (by omega)) (ac rfl (ac rfl an)) ?_))
  rintro r wn4 ⟨er4, Hn4⟩
  rw [← hz4] at er4
  rw [← hs4] at Hn4
  subst er4
  have H7 : Hold w F wn4 [rB g 141 ([v, .int .i64 (ds4.pt : Int), .int .i64 ds4.mix, .int .i64 ds4.size]), rR u8 5 v ds4.code, rB g2 46 ([.int .i64 0, .int .i64 0, .int .i64 0]), rB g3 46 ([.int .i64 (1 + dz1), .int .i64 dz2, .int .i64 dz3])] := Hold.call K12 Hn4
  clear H6
  clear K12 hF12 n12 s12
  clear Hn4
  refine r (sa rfl) (re (sq (sq (rg (r (mv rfl) (r (bi rfl rfl rfl) (re ?_)))))))
  refine cp rfl (fun h0 => ?_) (fun h0 => ?_)
  · have a13 := nx_0 (n := 2) o4
    have c13 := nx_1 (s := ds4) (n := 2) (by omega)
    have o13 := nx_ok (n := 2) o4
    obtain ⟨dz13, hz13⟩ : ∃ z, z = (nx ds4 2).1 := ⟨_, rfl⟩
    obtain ⟨ds13, hs13⟩ : ∃ z, z = (nx ds4 2).2 := ⟨_, rfl⟩
    rw [← hz13] at a13 c13
    rw [← hs13] at o13
    obtain ⟨F14, hF14, n14, s14, K14⟩ := Hold.front (Γ := [rB g 141 ([v, .int .i64 (ds4.pt : Int), .int .i64 ds4.mix, .int .i64 ds4.size]), rR u8 5 v ds4.code]) (Δ := [rB g2 46 ([.int .i64 0, .int .i64 0, .int .i64 0]), rB g3 46 ([.int .i64 (1 + dz1), .int .i64 dz2, .int .i64 dz3])]) H7
    refine rg (r (mv z0) (cl go91 (l1Next (s := ds4) (m := 2) hF14 n14 o4 (by omega)) (ac rfl (ac rfl an)) ?_))
    rintro r wn13 ⟨er13, Hn13⟩
    rw [← hz13] at er13
    rw [← hs13] at Hn13
    subst er13
    have H8 : Hold w F wn13 [rB g 141 ([v, .int .i64 (ds13.pt : Int), .int .i64 ds13.mix, .int .i64 ds13.size]), rR u8 5 v ds13.code, rB g2 46 ([.int .i64 0, .int .i64 0, .int .i64 0]), rB g3 46 ([.int .i64 (1 + dz1), .int .i64 dz2, .int .i64 dz3])] := Hold.call K14 Hn13
    clear H7
    clear K14 hF14 n14 s14
    clear Hn13
    have b15 : B wn13 g3 46 ([.int .i64 (1 + dz1), .int .i64 dz2, .int .i64 dz3]) := Hold.blk H8 3 rfl
    refine r (ad (a := 1099511627776) (b := dz13) (1099511627776 + dz13) rfl rfl (by omega)) (r (fa Tryd.underlying46 rfl ti2 rfl z3) (ef0 (xst (vs := [.int .i64 (1099511627776 + dz13)]) ti2 rfl rfl (cel1 rfl) b15 rfl (Nat.le_of_ble_eq_true rfl) (one_all rfl)) ?_))
    rintro w16 ⟨-, b16, c16⟩
    have H9 : Hold w F w16 [rB g 141 ([v, .int .i64 (ds13.pt : Int), .int .i64 ds13.mix, .int .i64 ds13.size]), rR u8 5 v ds13.code, rB g2 46 ([.int .i64 0, .int .i64 0, .int .i64 0]), rB g3 46 ([.int .i64 (1099511627776 + dz13), .int .i64 dz2, .int .i64 dz3])] := Hold.setB H8 3 rfl b16 c16 rfl
    clear H8
    clear b16 c16
    refine re (sq (sq (rg (r (mv rfl) (r (bi rfl rfl rfl) (re ?_))))))
    refine cf ((rfl : _ = Value.bool (decide (dz4 = 1))).trans (congrArg Value.bool (show (decide (dz4 = 1)) = false from (decide_eq_false (by omega))))) ?_
    refine sk (sq (sq ?_))
    refine gen (fun ρ => ρ 0 = .pointer (some ⟨g, 0, none⟩) ∧ ρ 2 = .pointer (some ⟨g2, 0, none⟩) ∧ ρ 3 = .pointer (some ⟨g3, 0, none⟩) ∧ ρ 4 = .int .i64 dz4 ∧ True) ⟨z0, z2, z3, rfl, trivial⟩ ?_
    rintro ρ ⟨z0, z2, z3, z4, -⟩
    refine rg (r (mv z4) (r (bi rfl rfl rfl) (re ?_)))
    refine cf ((rfl : _ = Value.bool (decide (dz4 = 2))).trans (congrArg Value.bool (show (decide (dz4 = 2)) = false from (decide_eq_false (by omega))))) ?_
    refine sk (sq (sq (rg (r (mv z4) (r (bi rfl rfl rfl) (re ?_))))))
    refine cf ((rfl : _ = Value.bool (decide (dz4 = 3))).trans (congrArg Value.bool (show (decide (dz4 = 3)) = false from (decide_eq_false (by omega))))) ?_
    refine sk (sq (sq (rg (r (mv z4) (r (bi rfl rfl rfl) (re ?_))))))
    refine cf ((rfl : _ = Value.bool (decide (dz4 = 4))).trans (congrArg Value.bool (show (decide (dz4 = 4)) = false from (decide_eq_false (by omega))))) ?_
    have b17 : B w16 g3 46 ([.int .i64 (1099511627776 + dz13), .int .i64 dz2, .int .i64 dz3]) := Hold.blk H9 3 rfl
    have b18 : B w16 g2 46 ([.int .i64 0, .int .i64 0, .int .i64 0]) := Hold.blk H9 2 rfl
    refine sk (sq (rg (r (lab [.int .i64 (1099511627776 + dz13), .int .i64 dz2, .int .i64 dz3] Tryd.underlying46 rfl ti46 z3 b17 rfl rfl) (ef0 (xst (vs := [.int .i64 (1099511627776 + dz13), .int .i64 dz2, .int .i64 dz3]) ti46 z2 rfl rfl b18 rfl (Nat.le_of_ble_eq_true rfl) (one_all rfl)) ?_))))
    rintro w19 ⟨-, b19, c19⟩
    have H10 : Hold w F w19 [rB g 141 ([v, .int .i64 (ds13.pt : Int), .int .i64 ds13.mix, .int .i64 ds13.size]), rR u8 5 v ds13.code, rB g2 46 ([.int .i64 (1099511627776 + dz13), .int .i64 dz2, .int .i64 dz3]), rB g3 46 ([.int .i64 (1099511627776 + dz13), .int .i64 dz2, .int .i64 dz3])] := Hold.setB H9 2 rfl b19 c19 rfl
    clear H9
    clear b19 c19
    refine re (rt ?_)
    have b20 : B w19 g2 46 ([.int .i64 (1099511627776 + dz13), .int .i64 dz2, .int .i64 dz3]) := Hold.blk H10 2 rfl
    have H11 : Hold w F w19 [rB g 141 ([v, .int .i64 (ds13.pt : Int), .int .i64 ds13.mix, .int .i64 ds13.size]), rR u8 5 v ds13.code] := (show Hold w F w19 ([rB g 141 ([v, .int .i64 (ds13.pt : Int), .int .i64 ds13.mix, .int .i64 ds13.size]), rR u8 5 v ds13.code] ++ [rB g2 46 ([.int .i64 (1099511627776 + dz13), .int .i64 dz2, .int .i64 dz3]), rB g3 46 ([.int .i64 (1099511627776 + dz13), .int .i64 dz2, .int .i64 dz3])]) from Hold.re H10 [0, 1, 2, 3] (by kernel_rfl) (by rfl)).drop
    clear H10
    exact finc  (cs := [.int .i64 (1099511627776 + dz13), .int .i64 dz2, .int .i64 dz3]) Tryd.results60 Tryd.underlying46 rfl ti46 z2 b20 rfl  ⟨_, _, _, ds13, rfl, o13, H11⟩
  · refine sk (sq (sq (rg (r (mv rfl) (r (bi rfl rfl rfl) (re ?_))))))
    refine cp rfl (fun h1 => ?_) (fun h1 => ?_)
    · have a13 := nx_0 (n := 2) o4
      have c13 := nx_1 (s := ds4) (n := 2) (by omega)
      have o13 := nx_ok (n := 2) o4
      obtain ⟨dz13, hz13⟩ : ∃ z, z = (nx ds4 2).1 := ⟨_, rfl⟩
      obtain ⟨ds13, hs13⟩ : ∃ z, z = (nx ds4 2).2 := ⟨_, rfl⟩
      rw [← hz13] at a13 c13
      rw [← hs13] at o13
      obtain ⟨F14, hF14, n14, s14, K14⟩ := Hold.front (Γ := [rB g 141 ([v, .int .i64 (ds4.pt : Int), .int .i64 ds4.mix, .int .i64 ds4.size]), rR u8 5 v ds4.code]) (Δ := [rB g2 46 ([.int .i64 0, .int .i64 0, .int .i64 0]), rB g3 46 ([.int .i64 (1 + dz1), .int .i64 dz2, .int .i64 dz3])]) H7
      refine rg (r (mv z0) (cl go91 (l1Next (s := ds4) (m := 2) hF14 n14 o4 (by omega)) (ac rfl (ac rfl an)) ?_))
      rintro r wn13 ⟨er13, Hn13⟩
      rw [← hz13] at er13
      rw [← hs13] at Hn13
      subst er13
      have H8 : Hold w F wn13 [rB g 141 ([v, .int .i64 (ds13.pt : Int), .int .i64 ds13.mix, .int .i64 ds13.size]), rR u8 5 v ds13.code, rB g2 46 ([.int .i64 0, .int .i64 0, .int .i64 0]), rB g3 46 ([.int .i64 (1 + dz1), .int .i64 dz2, .int .i64 dz3])] := Hold.call K14 Hn13
      clear H7
      clear K14 hF14 n14 s14
      clear Hn13
      have b15 : B wn13 g3 46 ([.int .i64 (1 + dz1), .int .i64 dz2, .int .i64 dz3]) := Hold.blk H8 3 rfl
      refine r (ng (-dz13) rfl (IntWalk.i64_in _ (by omega))) (r (fa Tryd.underlying46 rfl ti2 rfl z3) (ef0 (xst (vs := [.int .i64 (-dz13)]) ti2 rfl rfl (cel1 rfl) b15 rfl (Nat.le_of_ble_eq_true rfl) (one_all rfl)) ?_))
      rintro w16 ⟨-, b16, c16⟩
      have H9 : Hold w F w16 [rB g 141 ([v, .int .i64 (ds13.pt : Int), .int .i64 ds13.mix, .int .i64 ds13.size]), rR u8 5 v ds13.code, rB g2 46 ([.int .i64 0, .int .i64 0, .int .i64 0]), rB g3 46 ([.int .i64 (-dz13), .int .i64 dz2, .int .i64 dz3])] := Hold.setB H8 3 rfl b16 c16 rfl
      clear H8
      clear b16 c16
      refine re (sq (sq ?_))
      refine gen (fun ρ => ρ 0 = .pointer (some ⟨g, 0, none⟩) ∧ ρ 2 = .pointer (some ⟨g2, 0, none⟩) ∧ ρ 3 = .pointer (some ⟨g3, 0, none⟩) ∧ ρ 4 = .int .i64 dz4 ∧ True) ⟨z0, z2, z3, rfl, trivial⟩ ?_
      rintro ρ ⟨z0, z2, z3, z4, -⟩
      refine rg (r (mv z4) (r (bi rfl rfl rfl) (re ?_)))
      refine cf ((rfl : _ = Value.bool (decide (dz4 = 2))).trans (congrArg Value.bool (show (decide (dz4 = 2)) = false from (decide_eq_false (by omega))))) ?_
      refine sk (sq (sq (rg (r (mv z4) (r (bi rfl rfl rfl) (re ?_))))))
      refine cf ((rfl : _ = Value.bool (decide (dz4 = 3))).trans (congrArg Value.bool (show (decide (dz4 = 3)) = false from (decide_eq_false (by omega))))) ?_
      refine sk (sq (sq (rg (r (mv z4) (r (bi rfl rfl rfl) (re ?_))))))
      refine cf ((rfl : _ = Value.bool (decide (dz4 = 4))).trans (congrArg Value.bool (show (decide (dz4 = 4)) = false from (decide_eq_false (by omega))))) ?_
      have b17 : B w16 g3 46 ([.int .i64 (-dz13), .int .i64 dz2, .int .i64 dz3]) := Hold.blk H9 3 rfl
      have b18 : B w16 g2 46 ([.int .i64 0, .int .i64 0, .int .i64 0]) := Hold.blk H9 2 rfl
      refine sk (sq (rg (r (lab [.int .i64 (-dz13), .int .i64 dz2, .int .i64 dz3] Tryd.underlying46 rfl ti46 z3 b17 rfl rfl) (ef0 (xst (vs := [.int .i64 (-dz13), .int .i64 dz2, .int .i64 dz3]) ti46 z2 rfl rfl b18 rfl (Nat.le_of_ble_eq_true rfl) (one_all rfl)) ?_))))
      rintro w19 ⟨-, b19, c19⟩
      have H10 : Hold w F w19 [rB g 141 ([v, .int .i64 (ds13.pt : Int), .int .i64 ds13.mix, .int .i64 ds13.size]), rR u8 5 v ds13.code, rB g2 46 ([.int .i64 (-dz13), .int .i64 dz2, .int .i64 dz3]), rB g3 46 ([.int .i64 (-dz13), .int .i64 dz2, .int .i64 dz3])] := Hold.setB H9 2 rfl b19 c19 rfl
      clear H9
      clear b19 c19
      refine re (rt ?_)
      have b20 : B w19 g2 46 ([.int .i64 (-dz13), .int .i64 dz2, .int .i64 dz3]) := Hold.blk H10 2 rfl
      have H11 : Hold w F w19 [rB g 141 ([v, .int .i64 (ds13.pt : Int), .int .i64 ds13.mix, .int .i64 ds13.size]), rR u8 5 v ds13.code] := (show Hold w F w19 ([rB g 141 ([v, .int .i64 (ds13.pt : Int), .int .i64 ds13.mix, .int .i64 ds13.size]), rR u8 5 v ds13.code] ++ [rB g2 46 ([.int .i64 (-dz13), .int .i64 dz2, .int .i64 dz3]), rB g3 46 ([.int .i64 (-dz13), .int .i64 dz2, .int .i64 dz3])]) from Hold.re H10 [0, 1, 2, 3] (by kernel_rfl) (by rfl)).drop
      clear H10
      exact finc  (cs := [.int .i64 (-dz13), .int .i64 dz2, .int .i64 dz3]) Tryd.results60 Tryd.underlying46 rfl ti46 z2 b20 rfl  ⟨_, _, _, ds13, rfl, o13, H11⟩
    · refine sk (sq (sq (rg (r (mv rfl) (r (bi rfl rfl rfl) (re ?_))))))
      refine cp rfl (fun h2 => ?_) (fun h2 => ?_)
      · have a13 := nx_0 (n := 2) o4
        have c13 := nx_1 (s := ds4) (n := 2) (by omega)
        have o13 := nx_ok (n := 2) o4
        obtain ⟨dz13, hz13⟩ : ∃ z, z = (nx ds4 2).1 := ⟨_, rfl⟩
        obtain ⟨ds13, hs13⟩ : ∃ z, z = (nx ds4 2).2 := ⟨_, rfl⟩
        rw [← hz13] at a13 c13
        rw [← hs13] at o13
        obtain ⟨F14, hF14, n14, s14, K14⟩ := Hold.front (Γ := [rB g 141 ([v, .int .i64 (ds4.pt : Int), .int .i64 ds4.mix, .int .i64 ds4.size]), rR u8 5 v ds4.code]) (Δ := [rB g2 46 ([.int .i64 0, .int .i64 0, .int .i64 0]), rB g3 46 ([.int .i64 (1 + dz1), .int .i64 dz2, .int .i64 dz3])]) H7
        refine rg (r (mv z0) (cl go91 (l1Next (s := ds4) (m := 2) hF14 n14 o4 (by omega)) (ac rfl (ac rfl an)) ?_))
        rintro r wn13 ⟨er13, Hn13⟩
        rw [← hz13] at er13
        rw [← hs13] at Hn13
        subst er13
        have H8 : Hold w F wn13 [rB g 141 ([v, .int .i64 (ds13.pt : Int), .int .i64 ds13.mix, .int .i64 ds13.size]), rR u8 5 v ds13.code, rB g2 46 ([.int .i64 0, .int .i64 0, .int .i64 0]), rB g3 46 ([.int .i64 (1 + dz1), .int .i64 dz2, .int .i64 dz3])] := Hold.call K14 Hn13
        clear H7
        clear K14 hF14 n14 s14
        clear Hn13
        have b15 : B wn13 g3 46 ([.int .i64 (1 + dz1), .int .i64 dz2, .int .i64 dz3]) := Hold.blk H8 3 rfl
        refine r (ad (a := 65535) (b := dz13) (65535 + dz13) rfl rfl (by omega)) (r (fa Tryd.underlying46 rfl ti2 rfl z3) (ef0 (xst (vs := [.int .i64 (65535 + dz13)]) ti2 rfl rfl (cel1 rfl) b15 rfl (Nat.le_of_ble_eq_true rfl) (one_all rfl)) ?_))
        rintro w16 ⟨-, b16, c16⟩
        have H9 : Hold w F w16 [rB g 141 ([v, .int .i64 (ds13.pt : Int), .int .i64 ds13.mix, .int .i64 ds13.size]), rR u8 5 v ds13.code, rB g2 46 ([.int .i64 0, .int .i64 0, .int .i64 0]), rB g3 46 ([.int .i64 (1 + dz1), .int .i64 (65535 + dz13), .int .i64 dz3])] := Hold.setB H8 3 rfl b16 c16 rfl
        clear H8
        clear b16 c16
        refine re (sq (sq ?_))
        refine gen (fun ρ => ρ 0 = .pointer (some ⟨g, 0, none⟩) ∧ ρ 2 = .pointer (some ⟨g2, 0, none⟩) ∧ ρ 3 = .pointer (some ⟨g3, 0, none⟩) ∧ ρ 4 = .int .i64 dz4 ∧ True) ⟨z0, z2, z3, rfl, trivial⟩ ?_
        rintro ρ ⟨z0, z2, z3, z4, -⟩
        refine rg (r (mv z4) (r (bi rfl rfl rfl) (re ?_)))
        refine cf ((rfl : _ = Value.bool (decide (dz4 = 3))).trans (congrArg Value.bool (show (decide (dz4 = 3)) = false from (decide_eq_false (by omega))))) ?_
        refine sk (sq (sq (rg (r (mv z4) (r (bi rfl rfl rfl) (re ?_))))))
        refine cf ((rfl : _ = Value.bool (decide (dz4 = 4))).trans (congrArg Value.bool (show (decide (dz4 = 4)) = false from (decide_eq_false (by omega))))) ?_
        have b17 : B w16 g3 46 ([.int .i64 (1 + dz1), .int .i64 (65535 + dz13), .int .i64 dz3]) := Hold.blk H9 3 rfl
        have b18 : B w16 g2 46 ([.int .i64 0, .int .i64 0, .int .i64 0]) := Hold.blk H9 2 rfl
        refine sk (sq (rg (r (lab [.int .i64 (1 + dz1), .int .i64 (65535 + dz13), .int .i64 dz3] Tryd.underlying46 rfl ti46 z3 b17 rfl rfl) (ef0 (xst (vs := [.int .i64 (1 + dz1), .int .i64 (65535 + dz13), .int .i64 dz3]) ti46 z2 rfl rfl b18 rfl (Nat.le_of_ble_eq_true rfl) (one_all rfl)) ?_))))
        rintro w19 ⟨-, b19, c19⟩
        have H10 : Hold w F w19 [rB g 141 ([v, .int .i64 (ds13.pt : Int), .int .i64 ds13.mix, .int .i64 ds13.size]), rR u8 5 v ds13.code, rB g2 46 ([.int .i64 (1 + dz1), .int .i64 (65535 + dz13), .int .i64 dz3]), rB g3 46 ([.int .i64 (1 + dz1), .int .i64 (65535 + dz13), .int .i64 dz3])] := Hold.setB H9 2 rfl b19 c19 rfl
        clear H9
        clear b19 c19
        refine re (rt ?_)
        have b20 : B w19 g2 46 ([.int .i64 (1 + dz1), .int .i64 (65535 + dz13), .int .i64 dz3]) := Hold.blk H10 2 rfl
        have H11 : Hold w F w19 [rB g 141 ([v, .int .i64 (ds13.pt : Int), .int .i64 ds13.mix, .int .i64 ds13.size]), rR u8 5 v ds13.code] := (show Hold w F w19 ([rB g 141 ([v, .int .i64 (ds13.pt : Int), .int .i64 ds13.mix, .int .i64 ds13.size]), rR u8 5 v ds13.code] ++ [rB g2 46 ([.int .i64 (1 + dz1), .int .i64 (65535 + dz13), .int .i64 dz3]), rB g3 46 ([.int .i64 (1 + dz1), .int .i64 (65535 + dz13), .int .i64 dz3])]) from Hold.re H10 [0, 1, 2, 3] (by kernel_rfl) (by rfl)).drop
        clear H10
        exact finc  (cs := [.int .i64 (1 + dz1), .int .i64 (65535 + dz13), .int .i64 dz3]) Tryd.results60 Tryd.underlying46 rfl ti46 z2 b20 rfl  ⟨_, _, _, ds13, rfl, o13, H11⟩
      · refine sk (sq (sq (rg (r (mv rfl) (r (bi rfl rfl rfl) (re ?_))))))
        refine cp rfl (fun h3 => ?_) (fun h3 => ?_)
        · have a13 := nx_0 (n := 2) o4
          have c13 := nx_1 (s := ds4) (n := 2) (by omega)
          have o13 := nx_ok (n := 2) o4
          obtain ⟨dz13, hz13⟩ : ∃ z, z = (nx ds4 2).1 := ⟨_, rfl⟩
          obtain ⟨ds13, hs13⟩ : ∃ z, z = (nx ds4 2).2 := ⟨_, rfl⟩
          rw [← hz13] at a13 c13
          rw [← hs13] at o13
          refine gen (fun ρ => ρ 0 = .pointer (some ⟨g, 0, none⟩) ∧ ρ 2 = .pointer (some ⟨g2, 0, none⟩) ∧ ρ 3 = .pointer (some ⟨g3, 0, none⟩) ∧ ρ 4 = .int .i64 dz4 ∧ True) ⟨z0, z2, z3, rfl, trivial⟩ ?_
          rintro ρ ⟨z0, z2, z3, z4, -⟩
          obtain ⟨F14, hF14, n14, s14, K14⟩ := Hold.front (Γ := [rB g 141 ([v, .int .i64 (ds4.pt : Int), .int .i64 ds4.mix, .int .i64 ds4.size]), rR u8 5 v ds4.code]) (Δ := [rB g2 46 ([.int .i64 0, .int .i64 0, .int .i64 0]), rB g3 46 ([.int .i64 (1 + dz1), .int .i64 dz2, .int .i64 dz3])]) H7
          refine rg (r (mv z0) (cl go91 (l1Next (s := ds4) (m := 2) hF14 n14 o4 (by omega)) (ac rfl (ac rfl an)) ?_))
          rintro r wn13 ⟨er13, Hn13⟩
          rw [← hz13] at er13
          rw [← hs13] at Hn13
          subst er13
          have H8 : Hold w F wn13 [rB g 141 ([v, .int .i64 (ds13.pt : Int), .int .i64 ds13.mix, .int .i64 ds13.size]), rR u8 5 v ds13.code, rB g2 46 ([.int .i64 0, .int .i64 0, .int .i64 0]), rB g3 46 ([.int .i64 (1 + dz1), .int .i64 dz2, .int .i64 dz3])] := Hold.call K14 Hn13
          clear H7
          clear K14 hF14 n14 s14
          clear Hn13
          have b15 : B wn13 g3 46 ([.int .i64 (1 + dz1), .int .i64 dz2, .int .i64 dz3]) := Hold.blk H8 3 rfl
          refine r (ad (a := 65535) (b := dz13) (65535 + dz13) rfl rfl (by omega)) (r (fa Tryd.underlying46 rfl ti2 rfl z3) (ef0 (xst (vs := [.int .i64 (65535 + dz13)]) ti2 rfl rfl (cel1 rfl) b15 rfl (Nat.le_of_ble_eq_true rfl) (one_all rfl)) ?_))
          rintro w16 ⟨-, b16, c16⟩
          have H9 : Hold w F w16 [rB g 141 ([v, .int .i64 (ds13.pt : Int), .int .i64 ds13.mix, .int .i64 ds13.size]), rR u8 5 v ds13.code, rB g2 46 ([.int .i64 0, .int .i64 0, .int .i64 0]), rB g3 46 ([.int .i64 (1 + dz1), .int .i64 dz2, .int .i64 (65535 + dz13)])] := Hold.setB H8 3 rfl b16 c16 rfl
          clear H8
          clear b16 c16
          refine re (sq (sq (rg (r (mv z4) (r (bi rfl rfl rfl) (re ?_))))))
          refine cf ((rfl : _ = Value.bool (decide (dz4 = 4))).trans (congrArg Value.bool (show (decide (dz4 = 4)) = false from (decide_eq_false (by omega))))) ?_
          have b17 : B w16 g3 46 ([.int .i64 (1 + dz1), .int .i64 dz2, .int .i64 (65535 + dz13)]) := Hold.blk H9 3 rfl
          have b18 : B w16 g2 46 ([.int .i64 0, .int .i64 0, .int .i64 0]) := Hold.blk H9 2 rfl
          refine sk (sq (rg (r (lab [.int .i64 (1 + dz1), .int .i64 dz2, .int .i64 (65535 + dz13)] Tryd.underlying46 rfl ti46 z3 b17 rfl rfl) (ef0 (xst (vs := [.int .i64 (1 + dz1), .int .i64 dz2, .int .i64 (65535 + dz13)]) ti46 z2 rfl rfl b18 rfl (Nat.le_of_ble_eq_true rfl) (one_all rfl)) ?_))))
          rintro w19 ⟨-, b19, c19⟩
          have H10 : Hold w F w19 [rB g 141 ([v, .int .i64 (ds13.pt : Int), .int .i64 ds13.mix, .int .i64 ds13.size]), rR u8 5 v ds13.code, rB g2 46 ([.int .i64 (1 + dz1), .int .i64 dz2, .int .i64 (65535 + dz13)]), rB g3 46 ([.int .i64 (1 + dz1), .int .i64 dz2, .int .i64 (65535 + dz13)])] := Hold.setB H9 2 rfl b19 c19 rfl
          clear H9
          clear b19 c19
          refine re (rt ?_)
          have b20 : B w19 g2 46 ([.int .i64 (1 + dz1), .int .i64 dz2, .int .i64 (65535 + dz13)]) := Hold.blk H10 2 rfl
          have H11 : Hold w F w19 [rB g 141 ([v, .int .i64 (ds13.pt : Int), .int .i64 ds13.mix, .int .i64 ds13.size]), rR u8 5 v ds13.code] := (show Hold w F w19 ([rB g 141 ([v, .int .i64 (ds13.pt : Int), .int .i64 ds13.mix, .int .i64 ds13.size]), rR u8 5 v ds13.code] ++ [rB g2 46 ([.int .i64 (1 + dz1), .int .i64 dz2, .int .i64 (65535 + dz13)]), rB g3 46 ([.int .i64 (1 + dz1), .int .i64 dz2, .int .i64 (65535 + dz13)])]) from Hold.re H10 [0, 1, 2, 3] (by kernel_rfl) (by rfl)).drop
          clear H10
          exact finc  (cs := [.int .i64 (1 + dz1), .int .i64 dz2, .int .i64 (65535 + dz13)]) Tryd.results60 Tryd.underlying46 rfl ti46 z2 b20 rfl  ⟨_, _, _, ds13, rfl, o13, H11⟩
        · refine sk (sq (sq ?_))
          refine gen (fun ρ => ρ 2 = .pointer (some ⟨g2, 0, none⟩) ∧ ρ 3 = .pointer (some ⟨g3, 0, none⟩) ∧ ρ 4 = .int .i64 dz4 ∧ True) ⟨z2, z3, rfl, trivial⟩ ?_
          rintro ρ ⟨z2, z3, z4, -⟩
          refine rg (r (mv z4) (r (bi rfl rfl rfl) (re ?_)))
          refine cp rfl (fun h4 => ?_) (fun h4 => ?_)
          · have b13 : B wn4 g3 46 ([.int .i64 (1 + dz1), .int .i64 dz2, .int .i64 dz3]) := Hold.blk H7 3 rfl
            refine rg (r (fa Tryd.underlying46 rfl ti2 rfl z3) (ef0 (xst (vs := [.int .i64 (-1)]) ti2 rfl rfl (cel1 rfl) b13 rfl (Nat.le_of_ble_eq_true rfl) (one_all rfl)) ?_))
            rintro w14 ⟨-, b14, c14⟩
            have H8 : Hold w F w14 [rB g 141 ([v, .int .i64 (ds4.pt : Int), .int .i64 ds4.mix, .int .i64 ds4.size]), rR u8 5 v ds4.code, rB g2 46 ([.int .i64 0, .int .i64 0, .int .i64 0]), rB g3 46 ([.int .i64 (1 + dz1), .int .i64 (-1), .int .i64 dz3])] := Hold.setB H7 3 rfl b14 c14 rfl
            clear H7
            clear b14 c14
            have b15 : B w14 g3 46 ([.int .i64 (1 + dz1), .int .i64 (-1), .int .i64 dz3]) := Hold.blk H8 3 rfl
            have b16 : B w14 g2 46 ([.int .i64 0, .int .i64 0, .int .i64 0]) := Hold.blk H8 2 rfl
            refine re (sq (rg (r (lab [.int .i64 (1 + dz1), .int .i64 (-1), .int .i64 dz3] Tryd.underlying46 rfl ti46 z3 b15 rfl rfl) (ef0 (xst (vs := [.int .i64 (1 + dz1), .int .i64 (-1), .int .i64 dz3]) ti46 z2 rfl rfl b16 rfl (Nat.le_of_ble_eq_true rfl) (one_all rfl)) ?_))))
            rintro w17 ⟨-, b17, c17⟩
            have H9 : Hold w F w17 [rB g 141 ([v, .int .i64 (ds4.pt : Int), .int .i64 ds4.mix, .int .i64 ds4.size]), rR u8 5 v ds4.code, rB g2 46 ([.int .i64 (1 + dz1), .int .i64 (-1), .int .i64 dz3]), rB g3 46 ([.int .i64 (1 + dz1), .int .i64 (-1), .int .i64 dz3])] := Hold.setB H8 2 rfl b17 c17 rfl
            clear H8
            clear b17 c17
            refine re (rt ?_)
            have b18 : B w17 g2 46 ([.int .i64 (1 + dz1), .int .i64 (-1), .int .i64 dz3]) := Hold.blk H9 2 rfl
            have H10 : Hold w F w17 [rB g 141 ([v, .int .i64 (ds4.pt : Int), .int .i64 ds4.mix, .int .i64 ds4.size]), rR u8 5 v ds4.code] := (show Hold w F w17 ([rB g 141 ([v, .int .i64 (ds4.pt : Int), .int .i64 ds4.mix, .int .i64 ds4.size]), rR u8 5 v ds4.code] ++ [rB g2 46 ([.int .i64 (1 + dz1), .int .i64 (-1), .int .i64 dz3]), rB g3 46 ([.int .i64 (1 + dz1), .int .i64 (-1), .int .i64 dz3])]) from Hold.re H9 [0, 1, 2, 3] (by kernel_rfl) (by rfl)).drop
            clear H9
            exact finc  (cs := [.int .i64 (1 + dz1), .int .i64 (-1), .int .i64 dz3]) Tryd.results60 Tryd.underlying46 rfl ti46 z2 b18 rfl  ⟨_, _, _, ds4, rfl, o4, H10⟩
          · have b13 : B wn4 g3 46 ([.int .i64 (1 + dz1), .int .i64 dz2, .int .i64 dz3]) := Hold.blk H7 3 rfl
            have b14 : B wn4 g2 46 ([.int .i64 0, .int .i64 0, .int .i64 0]) := Hold.blk H7 2 rfl
            refine sk (sq (rg (r (lab [.int .i64 (1 + dz1), .int .i64 dz2, .int .i64 dz3] Tryd.underlying46 rfl ti46 z3 b13 rfl rfl) (ef0 (xst (vs := [.int .i64 (1 + dz1), .int .i64 dz2, .int .i64 dz3]) ti46 z2 rfl rfl b14 rfl (Nat.le_of_ble_eq_true rfl) (one_all rfl)) ?_))))
            rintro w15 ⟨-, b15, c15⟩
            have H8 : Hold w F w15 [rB g 141 ([v, .int .i64 (ds4.pt : Int), .int .i64 ds4.mix, .int .i64 ds4.size]), rR u8 5 v ds4.code, rB g2 46 ([.int .i64 (1 + dz1), .int .i64 dz2, .int .i64 dz3]), rB g3 46 ([.int .i64 (1 + dz1), .int .i64 dz2, .int .i64 dz3])] := Hold.setB H7 2 rfl b15 c15 rfl
            clear H7
            clear b15 c15
            refine re (rt ?_)
            have b16 : B w15 g2 46 ([.int .i64 (1 + dz1), .int .i64 dz2, .int .i64 dz3]) := Hold.blk H8 2 rfl
            have H9 : Hold w F w15 [rB g 141 ([v, .int .i64 (ds4.pt : Int), .int .i64 ds4.mix, .int .i64 ds4.size]), rR u8 5 v ds4.code] := (show Hold w F w15 ([rB g 141 ([v, .int .i64 (ds4.pt : Int), .int .i64 ds4.mix, .int .i64 ds4.size]), rR u8 5 v ds4.code] ++ [rB g2 46 ([.int .i64 (1 + dz1), .int .i64 dz2, .int .i64 dz3]), rB g3 46 ([.int .i64 (1 + dz1), .int .i64 dz2, .int .i64 dz3])]) from Hold.re H8 [0, 1, 2, 3] (by kernel_rfl) (by rfl)).drop
            clear H8
            exact finc  (cs := [.int .i64 (1 + dz1), .int .i64 dz2, .int .i64 dz3]) Tryd.results60 Tryd.underlying46 rfl ti46 z2 b16 rfl  ⟨_, _, _, ds4, rfl, o4, H9⟩
theorem DrawEncodeHeader {w : World} {F : List Nat} {v : Value} {xs : List Int} (hx : u8.R w F v xs) (lx : xs.length ≤ 1000000000) (ok : ok8 xs) :
    Ret Tryd.prog 22 #[v] w (fun r w' => ∃ q t b, r = .agg #[.int .i64 q, .int .i64 t, .int .i64 b] ∧ Ch [] w w') := by
  refine enter Tryd.func22 rfl Tryd.ntmps22 (by rfl) (by rfl) ?_
  have H0 : Hold w [] w [] := Hold.start w
  refine sq (rg (ef (xal ti46) ?_))
  rintro _ w1 ⟨g2, e1, rfl, -, b1, c1⟩
  have H1 : Hold w [] w1 [rB g2 46 ([.int .i64 0, .int .i64 0, .int .i64 0])] := Hold.newB H0 e1 b1 c1
  clear H0
  clear e1 b1 c1
  refine re (sq (rg (r (mv rfl) (cl go52 (l1Source (hx.t (Hold.ch H1)) lx ok) (ac rfl an) ?_))))
  rintro r ws ⟨g, u, rfl, Hs1⟩
  have H2 : Hold w [] ws [rB g2 46 ([.int .i64 0, .int .i64 0, .int .i64 0]), rB g 141 ([u, .int .i64 ((srcOf xs).pt : Int), .int .i64 ((srcOf xs).mix), .int .i64 ((srcOf xs).size)]), rR u8 5 u ((srcOf xs).code)] := Hold.news H1 Hs1
  clear H1
  clear Hs1
  have H3 : Hold w [] ws [rB g 141 ([u, .int .i64 ((srcOf xs).pt : Int), .int .i64 ((srcOf xs).mix), .int .i64 ((srcOf xs).size)]), rR u8 5 u ((srcOf xs).code), rB g2 46 ([.int .i64 0, .int .i64 0, .int .i64 0])] := Hold.re H2 [1, 2, 0] (by kernel_rfl) (by rfl)
  clear H2
  obtain ⟨F3, hF3, n3, s3, K3⟩ := Hold.front (Γ := [rB g 141 ([u, .int .i64 ((srcOf xs).pt : Int), .int .i64 ((srcOf xs).mix), .int .i64 ((srcOf xs).size)]), rR u8 5 u ((srcOf xs).code)]) (Δ := [rB g2 46 ([.int .i64 0, .int .i64 0, .int .i64 0])]) H3
  refine cl go60 (l2DrawHeader hF3 n3 (srcOf_ok ok)) (ac rfl an) ?_
  rintro r wd ⟨q, t, b, s', rfl, ok', Hd⟩
  have H4 : Hold w [] wd [rB g 141 ([u, .int .i64 (s'.pt : Int), .int .i64 s'.mix, .int .i64 s'.size]), rR u8 5 u s'.code, rB g2 46 ([.int .i64 0, .int .i64 0, .int .i64 0])] := Hold.call K3 Hd
  clear H3
  clear K3 hF3 n3 s3
  clear Hd
  have b4 : B wd g2 46 ([.int .i64 0, .int .i64 0, .int .i64 0]) := Hold.blk H4 2 rfl
  refine ef0 (xst (vs := [.int .i64 q, .int .i64 t, .int .i64 b]) ti46 rfl rfl rfl b4 rfl (Nat.le_of_ble_eq_true rfl) (one_all rfl)) ?_
  rintro w5 ⟨-, b5, c5⟩
  have H5 : Hold w [] w5 [rB g 141 ([u, .int .i64 (s'.pt : Int), .int .i64 s'.mix, .int .i64 s'.size]), rR u8 5 u s'.code, rB g2 46 ([.int .i64 q, .int .i64 t, .int .i64 b])] := Hold.setB H4 2 rfl b5 c5 rfl
  clear H4
  clear b5 c5
  refine re (rt ?_)
  have b6 : B w5 g2 46 ([.int .i64 q, .int .i64 t, .int .i64 b]) := Hold.blk H5 2 rfl
  exact finc  (cs := [.int .i64 q, .int .i64 t, .int .i64 b]) Tryd.results22 Tryd.underlying46 rfl ti46 rfl b6 rfl  ⟨q, t, b, rfl, Hold.ch H5⟩
end Go.Proofs.YtgpcanjmgdmdhaaDoor
