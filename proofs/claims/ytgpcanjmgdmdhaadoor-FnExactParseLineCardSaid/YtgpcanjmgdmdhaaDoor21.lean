/-
  CONTRACTS 21: DecodeTable. No condition.
-/
import Derived.Test.YtgpcanjmgdmdhaaDoor20
namespace Go.Proofs.YtgpcanjmgdmdhaaDoor
open Go Go.Eng
set_option maxRecDepth 100000
set_option maxHeartbeats 4000000
set_option linter.unusedVariables false
set_option linter.unusedSimpArgs false
def decE (v : Int) : Int × Bool := (v % 32768, decide (32768 ≤ v))
/-- Entry number i of a table's bytes. -/
def ntE (xs : List Int) (i : Nat) : Int × Bool := decE (unbig ((xs.drop (2 * i)).take 2))
def entsB (xs : List Int) (n : Nat) : List (Int × Bool) := (List.range n).map (ntE xs)
theorem entsB_succ (xs : List Int) (n : Nat) : entsB xs (n + 1) = entsB xs n ++ [ntE xs n] := by simp [entsB, List.range_succ]
theorem entsB_len (xs : List Int) (n : Nat) : (entsB xs n).length = n := by simp [entsB]
def decOk (xs : List Int) : Prop := xs.length % 2 = 0 ∧ xs.length ≤ 2048 ∧ ∀ x, x ∈ entsB xs (xs.length / 2) → ent x
instance (xs : List Int) : Decidable (decOk xs) := by unfold decOk; infer_instance
def decTable (xs : List Int) : Bool × List (Int × Bool) := if decOk xs then (true, entsB xs (xs.length / 2)) else (false, [])
theorem decTable_len (xs : List Int) : (decTable xs).2.length ≤ 1024 := by
  unfold decTable; split
  · rename_i h; rw [entsB_len]; have := h.2.1; omega
  · simp
theorem entsB_all {xs : List Int} {n k : Nat} (hk : k < n) (h : ∀ x, x ∈ entsB xs n → ent x) : ent (ntE xs k) := h _ (List.mem_map.2 ⟨k, by simpa using hk, rfl⟩)
theorem ents_snoc {xs : List Int} {n : Nat} (h : ∀ x, x ∈ entsB xs n → ent x) (h' : ent (ntE xs n)) : ∀ x, x ∈ entsB xs (n + 1) → ent x := by
  rw [entsB_succ]
  intro x hx
  rcases List.mem_append.1 hx with hx | hx
  · exact h x hx
  · rw [List.mem_singleton.1 hx]; exact h'
theorem drop_take2 {xs : List Int} {k : Nat} : (xs.take (2 * k + 2)).drop (2 * k) = (xs.drop (2 * k)).take 2 := by rw [List.drop_take]; congr 1; omega
theorem two_at {xs : List Int} (ok : ok8 xs) {i : Nat} (h : 2 * i + 2 ≤ xs.length) : 0 ≤ unbig ((xs.drop (2 * i)).take 2) ∧ unbig ((xs.drop (2 * i)).take 2) ≤ 65535 := ⟨unbig_nn (ok8_take (ok8_drop ok _) _), unbig_2 (ok8_take (ok8_drop ok _) _) (by simp; omega)⟩
theorem impl_DecodeTable {w : World} {F : List Nat} {v : Value} {xs : List Int} (hx : u8.R w F v xs) (lx : xs.length ≤ 1000000000) (ok : ok8 xs) :
    Ret Tryd.prog 21 #[v] w (fun r w' => ∃ t, r = .agg #[.bool (decTable xs).1, t] ∧ Hold w [] w' [rR kE 44 t (decTable xs).2]) := by
  refine enter Tryd.func21 rfl Tryd.ntmps21 (by rfl) (by rfl) ?_
  have H0 : Hold w [] w [] := Hold.start w
  refine sq (rg (ef (xal ti41) ?_))
  rintro _ w1 ⟨g2, e1, rfl, -, b1, c1⟩
  have H1 : Hold w [] w1 [rB g2 41 ([.bool false, .slice none 0 0])] := Hold.newB H0 e1 b1 c1
  clear H0
  clear e1 b1 c1
  refine re (sq (sq (rg (r (mv rfl) (r (ln Tryd.underlying22 rfl ((hx.t (Hold.ch H1)))) (r (rm (a := (xs.length : Int)) (b := 2) ((xs.length : Int) % 2) rfl rfl ⟨by omega, by rw [Int.tmod_eq_emod_of_nonneg (by omega)]⟩) (r (bi rfl rfl rfl) (r (mv rfl) ?_))))))))
  refine spn 11 rfl (fun h0 => ?_) (fun h0 => ?_)
  · refine gn rfl rfl rfl (gn rfl rfl rfl (gn rfl rfl rfl (r (pk rfl rfl) (re (ct rfl (sq ?_))))))
    refine gen (fun ρ => ρ 0 = v ∧ ρ 2 = .pointer (some ⟨g2, 0, none⟩) ∧ True) ⟨rfl, rfl, trivial⟩ ?_
    rintro ρ ⟨z0, z2, -⟩
    have b2 : B w1 g2 41 ([.bool false, .slice none 0 0]) := Hold.blk H1 0 rfl
    refine rg (r (bd (r := [.bool false, .slice none 0 0]) ti41 pl41 pn rfl) (ef0 (xst (vs := [.bool false, .slice none 0 0]) ti41 z2 rfl rfl b2 rfl (Nat.le_of_ble_eq_true rfl) (one_all rfl)) ?_))
    rintro w3 ⟨-, b3, c3⟩
    have H2 : Hold w [] w3 [rB g2 41 ([.bool false, .slice none 0 0])] := Hold.setB H1 0 rfl b3 c3 rfl
    clear H1
    clear b3 c3
    refine re (rt ?_)
    rw [show decTable xs = (false, []) from if_neg (fun e => h0 (by have := e.1; omega))]
    have H3 : Hold w [] w3 [rB g2 41 ([.bool false, .slice none 0 0]), rR kE 44 (.slice none 0 0) ([])] := Hold.nilrow kE 44 H2
    clear H2
    have b4 : B w3 g2 41 ([.bool false, .slice none 0 0]) := Hold.blk H3 0 rfl
    have H4 : Hold w [] w3 [rR kE 44 (.slice none 0 0) ([])] := (show Hold w [] w3 ([rR kE 44 (.slice none 0 0) ([])] ++ [rB g2 41 ([.bool false, .slice none 0 0])]) from Hold.re H3 [1, 0] (by kernel_rfl) (by rfl)).drop
    clear H3
    exact finc  (cs := [.bool false, .slice none 0 0]) Tryd.results21 Tryd.underlying41 rfl ti41 z2 b4 rfl  ⟨_, rfl, H4⟩
  · refine gy rfl rfl rfl (r (mv rfl) (gy rfl rfl rfl (r (ln Tryd.underlying22 rfl ((hx.t (Hold.ch H1)))) (gy rfl rfl rfl (r (bi rfl rfl rfl) (r (pk rfl rfl) (re ?_)))))))
    refine cp rfl (fun hc => ?_) (fun hc => ?_)
    · refine sq ?_
      refine gen (fun ρ => ρ 0 = v ∧ ρ 2 = .pointer (some ⟨g2, 0, none⟩) ∧ True) ⟨rfl, rfl, trivial⟩ ?_
      rintro ρ ⟨z0, z2, -⟩
      have b2 : B w1 g2 41 ([.bool false, .slice none 0 0]) := Hold.blk H1 0 rfl
      refine rg (r (bd (r := [.bool false, .slice none 0 0]) ti41 pl41 pn rfl) (ef0 (xst (vs := [.bool false, .slice none 0 0]) ti41 z2 rfl rfl b2 rfl (Nat.le_of_ble_eq_true rfl) (one_all rfl)) ?_))
      rintro w3 ⟨-, b3, c3⟩
      have H2 : Hold w [] w3 [rB g2 41 ([.bool false, .slice none 0 0])] := Hold.setB H1 0 rfl b3 c3 rfl
      clear H1
      clear b3 c3
      refine re (rt ?_)
      rw [show decTable xs = (false, []) from if_neg (fun e => by have := e.2.1; omega)]
      have H3 : Hold w [] w3 [rB g2 41 ([.bool false, .slice none 0 0]), rR kE 44 (.slice none 0 0) ([])] := Hold.nilrow kE 44 H2
      clear H2
      have b4 : B w3 g2 41 ([.bool false, .slice none 0 0]) := Hold.blk H3 0 rfl
      have H4 : Hold w [] w3 [rR kE 44 (.slice none 0 0) ([])] := (show Hold w [] w3 ([rR kE 44 (.slice none 0 0) ([])] ++ [rB g2 41 ([.bool false, .slice none 0 0])]) from Hold.re H3 [1, 0] (by kernel_rfl) (by rfl)).drop
      clear H3
      exact finc  (cs := [.bool false, .slice none 0 0]) Tryd.results21 Tryd.underlying41 rfl ti41 z2 b4 rfl  ⟨_, rfl, H4⟩
    · obtain ⟨m, hm⟩ : ∃ m, xs.length = 2 * m := ⟨xs.length / 2, by omega⟩
      refine sk (sq ?_)
      refine gen (fun ρ => ρ 0 = v ∧ ρ 2 = .pointer (some ⟨g2, 0, none⟩) ∧ True) ⟨rfl, rfl, trivial⟩ ?_
      rintro ρ ⟨z0, z2, -⟩
      refine rg (r (sa rfl) (re (sq (rg (r (mv z0) (r (bd (r := [v]) ti102 pl102 (pc rfl (cel1 ((hx.t (Hold.ch H1))).oneCell) pn) rfl) (ef (xal ti102) ?_)))))))
      rintro _ w2 ⟨g4, e2, rfl, -, b2, c2⟩
      have H2 : Hold w [] w2 [rB g2 41 ([.bool false, .slice none 0 0]), rB g4 102 ([.slice none 0 0])] := Hold.newB H1 e2 b2 c2
      clear H1
      clear e2 b2 c2
      have b3 : B w2 g4 102 ([.slice none 0 0]) := Hold.blk H2 1 rfl
      refine ef0 (xst (vs := [v]) ti102 rfl rfl rfl b3 rfl (Nat.le_of_ble_eq_true rfl) (oc ((hx.t (Hold.ch H2))).oneCell on)) ?_
      rintro w4 ⟨-, b4, c4⟩
      have H3 : Hold w [] w4 [rB g2 41 ([.bool false, .slice none 0 0]), rB g4 102 ([v])] := Hold.setB H2 1 rfl b4 c4 rfl
      clear H2
      clear b4 c4
      refine re (sq (bl ?_))
      have H4 : Hold w [] w4 [rB g2 41 ([.bool false, .slice none 0 0]), rB g4 102 ([v]), rR kE 44 (.slice none 0 0) ([])] := Hold.nilrow kE 44 H3
      clear H3
      refine lp (α := Nat × Value × Value × List Nat) (fun (k, o, s, G) ρ w' => ρ 0 = v ∧ ρ 2 = .pointer (some ⟨g2, 0, none⟩) ∧ ρ 3 = o ∧ ρ 4 = .pointer (some ⟨g4, 0, none⟩) ∧ Hold w [] w' [rB g2 41 ([.bool false, .slice none 0 0]), rB g4 102 ([s]), rR kE 44 o (entsB xs k)] ∧ k ≤ m ∧ (∀ x, x ∈ entsB xs k → ent x) ∧ u8.R w G s (xs.drop (2 * k))) (fun (k, o, s, G) => m - k) (0, .slice none 0 0, v, F) ?_ ?_
      · exact ⟨z0, z2, rfl, rfl, (by simpa [entsB] using H4), ⟨by omega, by simp [entsB], by simpa using hx⟩⟩
      clear H4
      rintro ⟨k, o, s, G⟩ ρ w505 ⟨y0, y2, y3, y4, H5, ⟨hk, hok, hR⟩⟩
      have b5 : B w505 g4 102 ([s]) := Hold.blk H5 1 rfl
      refine sq (sq (rg (r (fa Tryd.underlying102 rfl ti22 rfl y4) (r (ldb Tryd.underlying22 rfl rfl b5 rfl) (r (ln Tryd.underlying22 rfl ((hR.t (Hold.ch H5)))) (r (bi rfl rfl rfl) (re ?_)))))))
      refine cp rfl (fun hlt => ?_) (fun hlt => ?_)
      · simp only [List.length_drop] at hlt
        have hk' : k < m := by omega
        obtain ⟨hu1, hu2⟩ := two_at ok (i := k) (by omega)
        have hel := entsB_len xs k
        have H6 : Hold w [] w505 [rB g4 102 ([s]), rB g2 41 ([.bool false, .slice none 0 0]), rR kE 44 o (entsB xs k)] := Hold.re H5 [1, 0, 2] (by kernel_rfl) (by rfl)
        clear H5
        obtain ⟨F6, hF6, n6, s6, K6⟩ := Hold.front (Γ := [rB g4 102 ([s])]) (Δ := [rB g2 41 ([.bool false, .slice none 0 0]), rR kE 44 o (entsB xs k)]) H6
        refine sk (bl (sq (rg (cl go44 ((num (n := 2) hF6 n6 (hR.t (Hold.ch H6)) (dis_of0 hR.lt s6) (by simp; omega) (by omega) (ok8_drop ok _)).ret (fun c w2 hp => by have h9 := hp.1; simp only [List.length_drop] at h9; omega)) (ac y4 (ac rfl an)) ?_))))
        rintro r wn ⟨-, er, Hn⟩
        rw [i64_id ⟨by omega, by omega⟩] at er
        subst er
        have H7 : Hold w [] wn [rB g4 102 ([slv s 2 (xs.drop (2 * k)).length 1]), rB g2 41 ([.bool false, .slice none 0 0]), rR kE 44 o (entsB xs k)] := Hold.call K6 Hn
        clear H6
        clear K6 hF6 n6 s6
        clear Hn
        refine r (sa rfl) (re (sq (rg (r (mv rfl) (r (rm (a := unbig ((xs.drop (2 * k)).take 2)) (b := 32768) ((ntE xs k).1) rfl rfl ⟨by omega, by rw [Int.tmod_eq_emod_of_nonneg hu1]; rfl⟩) (r (mv rfl) (r (bi rfl rfl rfl) (r (bd (r := [.int .i64 ((ntE xs k).1), .bool (decide (32768 ≤ (unbig ((xs.drop (2 * k)).take 2))))]) ti44 pl44 (pc rfl (cel1 rfl) (pc rfl (cel1 rfl) pn)) rfl) (ef (xal ti44) ?_)))))))))
        rintro _ w7 ⟨g6, e7, rfl, -, b7, c7⟩
        have H8 : Hold w [] w7 [rB g4 102 ([slv s 2 (xs.drop (2 * k)).length 1]), rB g2 41 ([.bool false, .slice none 0 0]), rR kE 44 o (entsB xs k), rB g6 44 ([.int .i64 0, .bool false])] := Hold.newB H7 e7 b7 c7
        clear H7
        clear e7 b7 c7
        have b8 : B w7 g6 44 ([.int .i64 0, .bool false]) := Hold.blk H8 3 rfl
        refine ef0 (xst (vs := [.int .i64 ((ntE xs k).1), .bool (decide (32768 ≤ (unbig ((xs.drop (2 * k)).take 2))))]) ti44 rfl rfl rfl b8 rfl (Nat.le_of_ble_eq_true rfl) (one_all rfl)) ?_
        rintro w9 ⟨-, b9, c9⟩
        have H9 : Hold w [] w9 [rB g4 102 ([slv s 2 (xs.drop (2 * k)).length 1]), rB g2 41 ([.bool false, .slice none 0 0]), rR kE 44 o (entsB xs k), rB g6 44 ([.int .i64 ((ntE xs k).1), .bool (decide (32768 ≤ (unbig ((xs.drop (2 * k)).take 2))))])] := Hold.setB H8 3 rfl b9 c9 rfl
        clear H8
        clear b9 c9
        refine re (sq (sq ?_))
        refine gen (fun ρ => ρ 0 = v ∧ ρ 2 = .pointer (some ⟨g2, 0, none⟩) ∧ ρ 3 = o ∧ ρ 4 = .pointer (some ⟨g4, 0, none⟩) ∧ ρ 6 = .pointer (some ⟨g6, 0, none⟩) ∧ True) ⟨y0, y2, y3, y4, rfl, trivial⟩ ?_
        rintro ρ ⟨z0, z2, z3, z4, z6, -⟩
        have b10 : B w9 g6 44 ([.int .i64 ((ntE xs k).1), .bool (decide (32768 ≤ (unbig ((xs.drop (2 * k)).take 2))))]) := Hold.blk H9 3 rfl
        refine rg (r (lab [.int .i64 ((ntE xs k).1), .bool (decide (32768 ≤ (unbig ((xs.drop (2 * k)).take 2))))] Tryd.underlying44 rfl ti44 z6 b10 rfl rfl) ?_)
        refine cl go57 (Entry_valid (x := ntE xs k)) (ac rfl an) ?_
        rintro r we ⟨rfl, ce⟩
        have H10 : Hold w [] we [rB g4 102 ([slv s 2 (xs.drop (2 * k)).length 1]), rB g2 41 ([.bool false, .slice none 0 0]), rR kE 44 o (entsB xs k), rB g6 44 ([.int .i64 ((ntE xs k).1), .bool (decide (32768 ≤ (unbig ((xs.drop (2 * k)).take 2))))])] := Hold.t H9 ce
        clear H9
        clear ce
        refine r (nt rfl) (re ?_)
        refine cpn rfl (fun hv => ?_) (fun hv => ?_)
        · have b12 : B we g2 41 ([.bool false, .slice none 0 0]) := Hold.blk H10 1 rfl
          refine sq (rg (r (bd (r := [.bool false, .slice none 0 0]) ti41 pl41 pn rfl) (ef0 (xst (vs := [.bool false, .slice none 0 0]) ti41 z2 rfl rfl b12 rfl (Nat.le_of_ble_eq_true rfl) (one_all rfl)) ?_)))
          rintro w13 ⟨-, b13, c13⟩
          have H11 : Hold w [] w13 [rB g4 102 ([slv s 2 (xs.drop (2 * k)).length 1]), rB g2 41 ([.bool false, .slice none 0 0]), rR kE 44 o (entsB xs k), rB g6 44 ([.int .i64 ((ntE xs k).1), .bool (decide (32768 ≤ (unbig ((xs.drop (2 * k)).take 2))))])] := Hold.setB H10 1 rfl b13 c13 rfl
          clear H10
          clear b13 c13
          refine re (rt ?_)
          rw [show decTable xs = (false, []) from if_neg (fun e => hv (entsB_all (by omega) e.2.2))]
          have H12 : Hold w [] w13 [rB g4 102 ([slv s 2 (xs.drop (2 * k)).length 1]), rB g2 41 ([.bool false, .slice none 0 0]), rR kE 44 o (entsB xs k), rB g6 44 ([.int .i64 ((ntE xs k).1), .bool (decide (32768 ≤ (unbig ((xs.drop (2 * k)).take 2))))]), rR kE 44 (.slice none 0 0) ([])] := Hold.nilrow kE 44 H11
          clear H11
          have b14 : B w13 g2 41 ([.bool false, .slice none 0 0]) := Hold.blk H12 1 rfl
          have H13 : Hold w [] w13 [rR kE 44 (.slice none 0 0) ([])] := (show Hold w [] w13 ([rR kE 44 (.slice none 0 0) ([])] ++ [rB g4 102 ([slv s 2 (xs.drop (2 * k)).length 1]), rB g2 41 ([.bool false, .slice none 0 0]), rR kE 44 o (entsB xs k), rB g6 44 ([.int .i64 ((ntE xs k).1), .bool (decide (32768 ≤ (unbig ((xs.drop (2 * k)).take 2))))])]) from Hold.re H12 [4, 0, 1, 2, 3] (by kernel_rfl) (by rfl)).drop
          clear H12
          exact finc  (cs := [.bool false, .slice none 0 0]) Tryd.results21 Tryd.underlying41 rfl ti41 z2 b14 rfl  ⟨_, rfl, H13⟩
        · have b12 : B we g6 44 ([.int .i64 ((ntE xs k).1), .bool (decide (32768 ≤ (unbig ((xs.drop (2 * k)).take 2))))]) := Hold.blk H10 3 rfl
          refine sk (rg (r (mv z3) (r (lab [.int .i64 ((ntE xs k).1), .bool (decide (32768 ≤ (unbig ((xs.drop (2 * k)).take 2))))] Tryd.underlying44 rfl ti44 z6 b12 rfl rfl) (ef (xbs1 (cs := [.int .i64 ((ntE xs k).1), .bool (decide (32768 ≤ (unbig ((xs.drop (2 * k)).take 2))))]) Tryd.underlying37 ti44 rfl rfl rfl rfl rfl) ?_))))
          rintro _ w13 ⟨g35, e13, rfl, -, b13, c13⟩
          have H11 : Hold w [] w13 [rB g4 102 ([slv s 2 (xs.drop (2 * k)).length 1]), rB g2 41 ([.bool false, .slice none 0 0]), rR kE 44 o (entsB xs k), rB g6 44 ([.int .i64 ((ntE xs k).1), .bool (decide (32768 ≤ (unbig ((xs.drop (2 * k)).take 2))))]), rB g35 44 ([.int .i64 ((ntE xs k).1), .bool (decide (32768 ≤ (unbig ((xs.drop (2 * k)).take 2))))])] := Hold.newB H10 e13 b13 c13
          clear H10
          clear e13 b13 c13
          have b15 : B w13 g35 44 ([.int .i64 ((ntE xs k).1), .bool (decide (32768 ≤ (unbig ((xs.drop (2 * k)).take 2))))]) := Hold.blk H11 4 rfl
          obtain ⟨F16, P16, n16, s16, K16⟩ := Hold.pick H11 2 rfl
          replace P16 : Kd.W kE 44 w13 F16 o (entsB xs k) := P16
          refine ef (xapb (ys := [((ntE xs k).1, decide (32768 ≤ (unbig ((xs.drop (2 * k)).take 2))))]) Tryd.underlying37 ti44 rfl rfl rfl P16 b15 (els_one (R := Kd.O kE _) (show Kd.O kE _ [] ((ntE xs k).1, decide (32768 ≤ (unbig ((xs.drop (2 * k)).take 2)))) _ from ⟨[], [], [_], [_], rfl, rfl, ⟨rfl, rfl⟩, ⟨rfl, rfl⟩⟩)) (nodup_nil n16) (by simp; omega)) ?_
          rintro v36_14 w14 ⟨F14, A14⟩
          have H12 : Hold w [] w14 [rB g4 102 ([slv s 2 (xs.drop (2 * k)).length 1]), rB g2 41 ([.bool false, .slice none 0 0]), rR kE 44 v36_14 ((entsB xs k) ++ [((ntE xs k).1, decide (32768 ≤ (unbig ((xs.drop (2 * k)).take 2))))]), rB g6 44 ([.int .i64 ((ntE xs k).1), .bool (decide (32768 ≤ (unbig ((xs.drop (2 * k)).take 2))))]), rB g35 44 ([.int .i64 ((ntE xs k).1), .bool (decide (32768 ≤ (unbig ((xs.drop (2 * k)).take 2))))])] := Hold.apd K16 P16 A14 rfl
          clear H11
          clear A14 K16 P16 n16 s16
          refine r (sa rfl) (re (be ?_))
          obtain ⟨G', _, hR'⟩ := hR.sl 2 (xs.drop (2 * k)).length (by simp; omega) (Nat.le_refl _)
          rw [List.take_length, List.drop_drop] at hR'
          have H13 : Hold w [] w14 [rB g2 41 ([.bool false, .slice none 0 0]), rB g4 102 ([slv s 2 (xs.drop (2 * k)).length 1]), rR kE 44 v36_14 ((entsB xs k) ++ [((ntE xs k).1, decide (32768 ≤ (unbig ((xs.drop (2 * k)).take 2))))])] := (show Hold w [] w14 ([rB g2 41 ([.bool false, .slice none 0 0]), rB g4 102 ([slv s 2 (xs.drop (2 * k)).length 1]), rR kE 44 v36_14 ((entsB xs k) ++ [((ntE xs k).1, decide (32768 ≤ (unbig ((xs.drop (2 * k)).take 2))))])] ++ [rB g6 44 ([.int .i64 ((ntE xs k).1), .bool (decide (32768 ≤ (unbig ((xs.drop (2 * k)).take 2))))]), rB g35 44 ([.int .i64 ((ntE xs k).1), .bool (decide (32768 ≤ (unbig ((xs.drop (2 * k)).take 2))))])]) from Hold.re H12 [1, 0, 2, 3, 4] (by kernel_rfl) (by rfl)).drop
          clear H12
          exact ag (k + 1, v36_14, slv s 2 (xs.drop (2 * k)).length 1, G') ⟨z0, z2, rfl, z4, (by rw [entsB_succ]; exact H13), ⟨by omega, ents_snoc hok hv, by rw [show 2 * (k + 1) = 2 * k + 2 by omega]; exact hR'⟩⟩ (by first | omega | (dsimp only; omega))
      · simp only [List.length_drop] at hlt
        obtain rfl : k = m := by omega
        have hD : decTable xs = (true, entsB xs k) := by
          have e2 : xs.length / 2 = k := by omega
          rw [decTable, if_pos ⟨by omega, by omega, by rw [e2]; exact hok⟩, e2]
        rw [hD]
        obtain ⟨_, R6⟩ : ∃ F, Kd.R kE w505 F o (entsB xs k) := Hold.row H5 2 rfl
        have b7 : B w505 g2 41 ([.bool false, .slice none 0 0]) := Hold.blk H5 0 rfl
        refine ex rfl (sq (rg (r (mv y3) (r (bd (r := [.bool true, o]) ti41 pl41 (pc rfl (cel1 rfl) (pc rfl (cel1 (R6).oneCell) pn)) rfl) (ef0 (xst (vs := [.bool true, o]) ti41 y2 rfl rfl b7 rfl (Nat.le_of_ble_eq_true rfl) (oc rfl (oc (R6).oneCell on))) ?_)))))
        rintro w8 ⟨-, b8, c8⟩
        have H6 : Hold w [] w8 [rB g2 41 ([.bool true, o]), rB g4 102 ([s]), rR kE 44 o (entsB xs k)] := Hold.setB H5 0 rfl b8 c8 rfl
        clear H5
        clear b8 c8
        refine re (rt ?_)
        have b9 : B w8 g2 41 ([.bool true, o]) := Hold.blk H6 0 rfl
        have H7 : Hold w [] w8 [rR kE 44 o (entsB xs k)] := (show Hold w [] w8 ([rR kE 44 o (entsB xs k)] ++ [rB g2 41 ([.bool true, o]), rB g4 102 ([s])]) from Hold.re H6 [2, 0, 1] (by kernel_rfl) (by rfl)).drop
        clear H6
        exact finc  (cs := [.bool true, o]) Tryd.results21 Tryd.underlying41 rfl ti41 y2 b9 rfl  ⟨_, rfl, H7⟩
end Go.Proofs.YtgpcanjmgdmdhaaDoor
