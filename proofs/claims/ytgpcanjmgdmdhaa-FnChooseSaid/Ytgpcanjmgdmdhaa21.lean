/-
  CONTRACTS 21: DecodeTable. No condition.
-/
import Derived.Test.Ytgpcanjmgdmdhaa20
namespace Go.Proofs.Ytgpcanjmgdmdhaa
open Go Go.Eng
set_option maxRecDepth 100000
set_option maxHeartbeats 4000000
set_option linter.unusedVariables false
set_option linter.unusedSimpArgs false
def decE (v : Int) : Int × Bool := (v % 32768, decide (32768 ≤ v))
/-- Entry number i of a table's bytes. -/
def ntE (xs : List Int) (i : Nat) : Int × Bool := decE (unbig ((xs.drop (2 * i)).take 2))
def entsB (xs : List Int) (n : Nat) : List (Int × Bool) := (List.range n).map (ntE xs)
theorem entsB_succ (xs : List Int) (n : Nat) : entsB xs (n + 1) = entsB xs n ++ [ntE xs n] := by simp [entsB, List.range_succ]
theorem entsB_len (xs : List Int) (n : Nat) : (entsB xs n).length = n := by simp [entsB]
def decOk (xs : List Int) : Prop := xs.length % 2 = 0 ∧ xs.length ≤ 2048 ∧ ∀ x, x ∈ entsB xs (xs.length / 2) → ent x
instance (xs : List Int) : Decidable (decOk xs) := by unfold decOk; infer_instance
def decTable (xs : List Int) : Bool × List (Int × Bool) := if decOk xs then (true, entsB xs (xs.length / 2)) else (false, [])
theorem decTable_len (xs : List Int) : (decTable xs).2.length ≤ 1024 := by
  unfold decTable; split
  · rename_i h; rw [entsB_len]; have := h.2.1; omega
  · simp
theorem entsB_all {xs : List Int} {n k : Nat} (hk : k < n) (h : ∀ x, x ∈ entsB xs n → ent x) : ent (ntE xs k) := h _ (List.mem_map.2 ⟨k, by simpa using hk, rfl⟩)
theorem ents_snoc {xs : List Int} {n : Nat} (h : ∀ x, x ∈ entsB xs n → ent x) (h' : ent (ntE xs n)) : ∀ x, x ∈ entsB xs (n + 1) → ent x := by
  rw [entsB_succ]
  intro x hx
  rcases List.mem_append.1 hx with hx | hx
  · exact h x hx
  · rw [List.mem_singleton.1 hx]; exact h'
theorem drop_take2 {xs : List Int} {k : Nat} : (xs.take (2 * k + 2)).drop (2 * k) = (xs.drop (2 * k)).take 2 := by rw [List.drop_take]; congr 1; omega
theorem two_at {xs : List Int} (ok : ok8 xs) {i : Nat} (h : 2 * i + 2 ≤ xs.length) : 0 ≤ unbig ((xs.drop (2 * i)).take 2) ∧ unbig ((xs.drop (2 * i)).take 2) ≤ 65535 := ⟨unbig_nn (ok8_take (ok8_drop ok _) _), unbig_2 (ok8_take (ok8_drop ok _) _) (by simp; omega)⟩
theorem spec_DecodeTable {w : World} {F : List Nat} {v : Value} {xs : List Int} (hx : u8.R w F v xs) (lx : xs.length ≤ 1000000000) (ok : ok8 xs) :
    Ret Try.prog 65 #[v] w (fun r w' => ∃ t, r = .agg #[.bool (decTable xs).1, t] ∧ Hold w [] w' [rR kE 70 t (decTable xs).2]) := by
  refine enter Try.func65 rfl Try.ntmps65 (by rfl) (by rfl) ?_
  have H0 : Hold w [] w [] := Hold.start w
  refine sq (rg (ef (xal ti86) ?_))
  rintro _ w1 ⟨g2, e1, rfl, -, b1, c1⟩
  have H1 : Hold w [] w1 [rB g2 86 ([.bool false, .slice none 0 0])] := Hold.newB H0 e1 b1 c1
  clear H0
  clear e1 b1 c1
  refine re (sq (sq (rg (r (mv rfl) (r (ln Try.underlying40 rfl ((hx.t (Hold.ch H1)))) (r (rm ((xs.length : Int) % 2) rfl rfl ⟨by omega, by rw [Int.tmod_eq_emod_of_nonneg (by omega)]⟩) (r (bi rfl rfl rfl) (r (mv rfl) ?_))))))))
  refine spn 11 rfl (fun h0 => ?_) (fun h0 => ?_)
  · refine gn rfl rfl rfl (gn rfl rfl rfl (gn rfl rfl rfl (r (pk rfl rfl) (re (ct rfl (sq ?_))))))
    refine gen (fun ρ => ρ 0 = v ∧ ρ 2 = .pointer (some ⟨g2, 0, none⟩) ∧ True) ⟨rfl, rfl, trivial⟩ ?_
    rintro ρ ⟨z0, z2, -⟩
    have b2 : B w1 g2 86 ([.bool false, .slice none 0 0]) := Hold.blk H1 0 rfl
    refine rg (r (bd (r := [.bool false, .slice none 0 0]) ti86 pl86 pn rfl) (ef0 (xst (vs := [.bool false, .slice none 0 0]) ti86 z2 rfl rfl b2 rfl (Nat.le_of_ble_eq_true rfl) (one_all rfl)) ?_))
    rintro w3 ⟨-, b3, c3⟩
    have H2 : Hold w [] w3 [rB g2 86 ([.bool false, .slice none 0 0])] := Hold.setB H1 0 rfl b3 c3 rfl
    clear H1
    clear b3 c3
    refine re (rt ?_)
    rw [show decTable xs = (false, []) from if_neg (fun e => h0 (by have := e.1; omega))]
    have H3 : Hold w [] w3 [rB g2 86 ([.bool false, .slice none 0 0]), rR kE 70 (.slice none 0 0) ([])] := Hold.nilrow kE 70 H2
    clear H2
    have b4 : B w3 g2 86 ([.bool false, .slice none 0 0]) := Hold.blk H3 0 rfl
    have H4 : Hold w [] w3 [rR kE 70 (.slice none 0 0) ([])] := (show Hold w [] w3 ([rR kE 70 (.slice none 0 0) ([])] ++ [rB g2 86 ([.bool false, .slice none 0 0])]) from Hold.re H3 [1, 0] (by rfl) (by rfl)).drop
    clear H3
    exact finc  (cs := [.bool false, .slice none 0 0]) Try.results65 Try.underlying86 rfl ti86 z2 b4 rfl  ⟨_, rfl, H4⟩
  · refine gy rfl rfl rfl (r (mv rfl) (gy rfl rfl rfl (r (ln Try.underlying40 rfl ((hx.t (Hold.ch H1)))) (gy rfl rfl rfl (r (bi rfl rfl rfl) (r (pk rfl rfl) (re ?_)))))))
    refine cp rfl (fun hc => ?_) (fun hc => ?_)
    · refine sq ?_
      refine gen (fun ρ => ρ 0 = v ∧ ρ 2 = .pointer (some ⟨g2, 0, none⟩) ∧ True) ⟨rfl, rfl, trivial⟩ ?_
      rintro ρ ⟨z0, z2, -⟩
      have b2 : B w1 g2 86 ([.bool false, .slice none 0 0]) := Hold.blk H1 0 rfl
      refine rg (r (bd (r := [.bool false, .slice none 0 0]) ti86 pl86 pn rfl) (ef0 (xst (vs := [.bool false, .slice none 0 0]) ti86 z2 rfl rfl b2 rfl (Nat.le_of_ble_eq_true rfl) (one_all rfl)) ?_))
      rintro w3 ⟨-, b3, c3⟩
      have H2 : Hold w [] w3 [rB g2 86 ([.bool false, .slice none 0 0])] := Hold.setB H1 0 rfl b3 c3 rfl
      clear H1
      clear b3 c3
      refine re (rt ?_)
      rw [show decTable xs = (false, []) from if_neg (fun e => by have := e.2.1; omega)]
      have H3 : Hold w [] w3 [rB g2 86 ([.bool false, .slice none 0 0]), rR kE 70 (.slice none 0 0) ([])] := Hold.nilrow kE 70 H2
      clear H2
      have b4 : B w3 g2 86 ([.bool false, .slice none 0 0]) := Hold.blk H3 0 rfl
      have H4 : Hold w [] w3 [rR kE 70 (.slice none 0 0) ([])] := (show Hold w [] w3 ([rR kE 70 (.slice none 0 0) ([])] ++ [rB g2 86 ([.bool false, .slice none 0 0])]) from Hold.re H3 [1, 0] (by rfl) (by rfl)).drop
      clear H3
      exact finc  (cs := [.bool false, .slice none 0 0]) Try.results65 Try.underlying86 rfl ti86 z2 b4 rfl  ⟨_, rfl, H4⟩
    · obtain ⟨m, hm⟩ : ∃ m, xs.length = 2 * m := ⟨xs.length / 2, by omega⟩
      refine sk (sq ?_)
      refine gen (fun ρ => ρ 0 = v ∧ ρ 2 = .pointer (some ⟨g2, 0, none⟩) ∧ True) ⟨rfl, rfl, trivial⟩ ?_
      rintro ρ ⟨z0, z2, -⟩
      refine rg (r (bd (r := [.bool true, .slice none 0 0]) ti86 pl86 (pc rfl (cel1 rfl) pn) rfl) (ef (xal ti86) ?_))
      rintro _ w2 ⟨g3, e2, rfl, -, b2, c2⟩
      have H2 : Hold w [] w2 [rB g2 86 ([.bool false, .slice none 0 0]), rB g3 86 ([.bool false, .slice none 0 0])] := Hold.newB H1 e2 b2 c2
      clear H1
      clear e2 b2 c2
      have b3 : B w2 g3 86 ([.bool false, .slice none 0 0]) := Hold.blk H2 1 rfl
      refine ef0 (xst (vs := [.bool true, .slice none 0 0]) ti86 rfl rfl rfl b3 rfl (Nat.le_of_ble_eq_true rfl) (one_all rfl)) ?_
      rintro w4 ⟨-, b4, c4⟩
      have H3 : Hold w [] w4 [rB g2 86 ([.bool false, .slice none 0 0]), rB g3 86 ([.bool true, .slice none 0 0])] := Hold.setB H2 1 rfl b4 c4 rfl
      clear H2
      clear b4 c4
      refine re (sq (sq (rg (r (sa rfl) (re (bl ?_))))))
      have H4 : Hold w [] w4 [rB g2 86 ([.bool false, .slice none 0 0]), rB g3 86 ([.bool true, .slice none 0 0]), rR kE 70 (.slice none 0 0) ([])] := Hold.nilrow kE 70 H3
      clear H3
      refine lp (α := Nat × Value) (fun (k, o) ρ w' => ρ 0 = v ∧ ρ 2 = .pointer (some ⟨g2, 0, none⟩) ∧ ρ 3 = .pointer (some ⟨g3, 0, none⟩) ∧ ρ 4 = .int .i64 (2 * k : Nat) ∧ Hold w [] w' [rB g2 86 ([.bool false, .slice none 0 0]), rB g3 86 ([.bool true, o]), rR kE 70 o (entsB xs k)] ∧ k ≤ m ∧ (∀ x, x ∈ entsB xs k → ent x)) (fun (k, o) => m - k) (0, .slice none 0 0) ?_ ?_
      · exact ⟨z0, z2, rfl, rfl, (by simpa [entsB] using H4), ⟨by omega, by simp [entsB]⟩⟩
      clear H4
      rintro ⟨k, o⟩ ρ w505 ⟨y0, y2, y3, y4, H5, ⟨hk, hok⟩⟩
      refine sq (sq (rg (r (mv y4) (r (mv y0) (r (ln Try.underlying40 rfl ((hx.t (Hold.ch H5)))) (r (bi rfl rfl rfl) (re ?_)))))))
      refine cp rfl (fun hlt => ?_) (fun hlt => ?_)
      · have hk' : k < m := by omega
        obtain ⟨hu1, hu2⟩ := two_at ok (i := k) (by omega)
        have hel := entsB_len xs k
        obtain ⟨F6, _, R6⟩ := Kd.R.sl (hx.t (Hold.ch H5)) (2 * k) (2 * k + 2) (by first | omega | (simp; omega)) (by first | omega | (simp; omega))
        refine sk (sq (bl (sq (rg (r (mv y0) (r (mv y4) (r (mv y4) (r (ad ((2 * k + 2 : Nat)) rfl rfl (by omega)) (r (slr (2 * k) (2 * k + 2) Try.underlying40 ti5 (hx.t (Hold.ch H5)) rfl rfl rfl (by omega)) (cl go118 (l2Number R6 (by simp; omega) (ok8_drop (ok8_take ok _) _) (by have := two_at ok (i := k) (by omega); rw [drop_take2]; omega)) (ac rfl an) ?_))))))))))
        rintro r wn ⟨er, Hn⟩
        rw [drop_take2] at er
        subst er
        have H6 : Hold w [] wn [rB g2 86 ([.bool false, .slice none 0 0]), rB g3 86 ([.bool true, o]), rR kE 70 o (entsB xs k)] := Hold.news H5 Hn
        clear H5
        clear Hn
        refine r (sa rfl) (re (sq ?_))
        refine gen (fun ρ => ρ 0 = v ∧ ρ 2 = .pointer (some ⟨g2, 0, none⟩) ∧ ρ 3 = .pointer (some ⟨g3, 0, none⟩) ∧ ρ 4 = .int .i64 (2 * k : Nat) ∧ ρ 5 = .int .i64 (unbig ((xs.drop (2 * k)).take 2)) ∧ True) ⟨y0, y2, y3, y4, rfl, trivial⟩ ?_
        rintro ρ ⟨z0, z2, z3, z4, z5, -⟩
        refine rg (r (mv z5) (r (rm ((ntE xs k).1) rfl rfl ⟨by omega, by rw [Int.tmod_eq_emod_of_nonneg hu1]; rfl⟩) (r (mv z5) (r (bi rfl rfl rfl) (r (bd (r := [.int .i64 ((ntE xs k).1), .bool (decide (32768 ≤ (unbig ((xs.drop (2 * k)).take 2))))]) ti70 pl70 (pc rfl (cel1 rfl) (pc rfl (cel1 rfl) pn)) rfl) (ef (xal ti70) ?_))))))
        rintro _ w7 ⟨g6, e7, rfl, -, b7, c7⟩
        have H7 : Hold w [] w7 [rB g2 86 ([.bool false, .slice none 0 0]), rB g3 86 ([.bool true, o]), rR kE 70 o (entsB xs k), rB g6 70 ([.int .i64 0, .bool false])] := Hold.newB H6 e7 b7 c7
        clear H6
        clear e7 b7 c7
        have b8 : B w7 g6 70 ([.int .i64 0, .bool false]) := Hold.blk H7 3 rfl
        refine ef0 (xst (vs := [.int .i64 ((ntE xs k).1), .bool (decide (32768 ≤ (unbig ((xs.drop (2 * k)).take 2))))]) ti70 rfl rfl rfl b8 rfl (Nat.le_of_ble_eq_true rfl) (one_all rfl)) ?_
        rintro w9 ⟨-, b9, c9⟩
        have H8 : Hold w [] w9 [rB g2 86 ([.bool false, .slice none 0 0]), rB g3 86 ([.bool true, o]), rR kE 70 o (entsB xs k), rB g6 70 ([.int .i64 ((ntE xs k).1), .bool (decide (32768 ≤ (unbig ((xs.drop (2 * k)).take 2))))])] := Hold.setB H7 3 rfl b9 c9 rfl
        clear H7
        clear b9 c9
        have b10 : B w9 g6 70 ([.int .i64 ((ntE xs k).1), .bool (decide (32768 ≤ (unbig ((xs.drop (2 * k)).take 2))))]) := Hold.blk H8 3 rfl
        refine re (sq (sq (rg (r (lab [.int .i64 ((ntE xs k).1), .bool (decide (32768 ≤ (unbig ((xs.drop (2 * k)).take 2))))] Try.underlying70 rfl ti70 rfl b10 rfl rfl) ?_))))
        refine cl go106 (l2ValidEntry (x := ntE xs k)) (ac rfl an) ?_
        rintro r we ⟨rfl, ce⟩
        have H9 : Hold w [] we [rB g2 86 ([.bool false, .slice none 0 0]), rB g3 86 ([.bool true, o]), rR kE 70 o (entsB xs k), rB g6 70 ([.int .i64 ((ntE xs k).1), .bool (decide (32768 ≤ (unbig ((xs.drop (2 * k)).take 2))))])] := Hold.t H8 ce
        clear H8
        clear ce
        refine r (nt rfl) (re ?_)
        refine cpn rfl (fun hv => ?_) (fun hv => ?_)
        · have b12 : B we g2 86 ([.bool false, .slice none 0 0]) := Hold.blk H9 0 rfl
          refine sq (rg (r (bd (r := [.bool false, .slice none 0 0]) ti86 pl86 pn rfl) (ef0 (xst (vs := [.bool false, .slice none 0 0]) ti86 z2 rfl rfl b12 rfl (Nat.le_of_ble_eq_true rfl) (one_all rfl)) ?_)))
          rintro w13 ⟨-, b13, c13⟩
          have H10 : Hold w [] w13 [rB g2 86 ([.bool false, .slice none 0 0]), rB g3 86 ([.bool true, o]), rR kE 70 o (entsB xs k), rB g6 70 ([.int .i64 ((ntE xs k).1), .bool (decide (32768 ≤ (unbig ((xs.drop (2 * k)).take 2))))])] := Hold.setB H9 0 rfl b13 c13 rfl
          clear H9
          clear b13 c13
          refine re (rt ?_)
          rw [show decTable xs = (false, []) from if_neg (fun e => hv (entsB_all (by omega) e.2.2))]
          have H11 : Hold w [] w13 [rB g2 86 ([.bool false, .slice none 0 0]), rB g3 86 ([.bool true, o]), rR kE 70 o (entsB xs k), rB g6 70 ([.int .i64 ((ntE xs k).1), .bool (decide (32768 ≤ (unbig ((xs.drop (2 * k)).take 2))))]), rR kE 70 (.slice none 0 0) ([])] := Hold.nilrow kE 70 H10
          clear H10
          have b14 : B w13 g2 86 ([.bool false, .slice none 0 0]) := Hold.blk H11 0 rfl
          have H12 : Hold w [] w13 [rR kE 70 (.slice none 0 0) ([])] := (show Hold w [] w13 ([rR kE 70 (.slice none 0 0) ([])] ++ [rB g2 86 ([.bool false, .slice none 0 0]), rB g3 86 ([.bool true, o]), rR kE 70 o (entsB xs k), rB g6 70 ([.int .i64 ((ntE xs k).1), .bool (decide (32768 ≤ (unbig ((xs.drop (2 * k)).take 2))))])]) from Hold.re H11 [4, 0, 1, 2, 3] (by rfl) (by rfl)).drop
          clear H11
          exact finc  (cs := [.bool false, .slice none 0 0]) Try.results65 Try.underlying86 rfl ti86 z2 b14 rfl  ⟨_, rfl, H12⟩
        · have b12 : B we g3 86 ([.bool true, o]) := Hold.blk H9 1 rfl
          have b13 : B we g6 70 ([.int .i64 ((ntE xs k).1), .bool (decide (32768 ≤ (unbig ((xs.drop (2 * k)).take 2))))]) := Hold.blk H9 3 rfl
          refine sk (rg (r (fa Try.underlying86 rfl ti57 rfl z3) (r (ldb Try.underlying57 rfl rfl b12 rfl) (r (lab [.int .i64 ((ntE xs k).1), .bool (decide (32768 ≤ (unbig ((xs.drop (2 * k)).take 2))))] Try.underlying70 rfl ti70 rfl b13 rfl rfl) (ef (xbs1 (cs := [.int .i64 ((ntE xs k).1), .bool (decide (32768 ≤ (unbig ((xs.drop (2 * k)).take 2))))]) Try.underlying57 ti70 rfl rfl rfl rfl rfl) ?_)))))
          rintro _ w14 ⟨g42, e14, rfl, -, b14, c14⟩
          have H10 : Hold w [] w14 [rB g2 86 ([.bool false, .slice none 0 0]), rB g3 86 ([.bool true, o]), rR kE 70 o (entsB xs k), rB g6 70 ([.int .i64 ((ntE xs k).1), .bool (decide (32768 ≤ (unbig ((xs.drop (2 * k)).take 2))))]), rB g42 70 ([.int .i64 ((ntE xs k).1), .bool (decide (32768 ≤ (unbig ((xs.drop (2 * k)).take 2))))])] := Hold.newB H9 e14 b14 c14
          clear H9
          clear e14 b14 c14
          have b16 : B w14 g42 70 ([.int .i64 ((ntE xs k).1), .bool (decide (32768 ≤ (unbig ((xs.drop (2 * k)).take 2))))]) := Hold.blk H10 4 rfl
          obtain ⟨F17, P17, n17, s17, K17⟩ := Hold.pick H10 2 rfl
          replace P17 : Kd.W kE 70 w14 F17 o (entsB xs k) := P17
          refine ef (xapb (ys := [((ntE xs k).1, decide (32768 ≤ (unbig ((xs.drop (2 * k)).take 2))))]) Try.underlying57 ti70 rfl rfl rfl P17 b16 (els_one (R := Kd.O kE _) (show Kd.O kE _ [] ((ntE xs k).1, decide (32768 ≤ (unbig ((xs.drop (2 * k)).take 2)))) _ from ⟨[], [], [_], [_], rfl, rfl, ⟨rfl, rfl⟩, ⟨rfl, rfl⟩⟩)) (nodup_nil n17) (by simp; omega)) ?_
          rintro v43_15 w15 ⟨F15, A15⟩
          have H11 : Hold w [] w15 [rB g2 86 ([.bool false, .slice none 0 0]), rB g3 86 ([.bool true, o]), rR kE 70 v43_15 ((entsB xs k) ++ [((ntE xs k).1, decide (32768 ≤ (unbig ((xs.drop (2 * k)).take 2))))]), rB g6 70 ([.int .i64 ((ntE xs k).1), .bool (decide (32768 ≤ (unbig ((xs.drop (2 * k)).take 2))))]), rB g42 70 ([.int .i64 ((ntE xs k).1), .bool (decide (32768 ≤ (unbig ((xs.drop (2 * k)).take 2))))])] := Hold.apd K17 P17 A15 rfl
          clear H10
          clear A15 K17 P17 n17 s17
          have b18 : B w15 g3 86 ([.bool true, o]) := Hold.blk H11 1 rfl
          obtain ⟨_, R20⟩ : ∃ F, Kd.R kE w15 F v43_15 ((entsB xs k) ++ [((ntE xs k).1, decide (32768 ≤ (unbig ((xs.drop (2 * k)).take 2))))]) := Hold.row H11 2 rfl
          refine r (fa Try.underlying86 rfl ti57 rfl z3) (ef0 (xst (vs := [v43_15]) ti57 rfl rfl (cel1 (R20).oneCell) b18 rfl (Nat.le_of_ble_eq_true rfl) (ones1 (R20).oneCell)) ?_)
          rintro w19 ⟨-, b19, c19⟩
          have H12 : Hold w [] w19 [rB g2 86 ([.bool false, .slice none 0 0]), rB g3 86 ([.bool true, v43_15]), rR kE 70 v43_15 ((entsB xs k) ++ [((ntE xs k).1, decide (32768 ≤ (unbig ((xs.drop (2 * k)).take 2))))]), rB g6 70 ([.int .i64 ((ntE xs k).1), .bool (decide (32768 ≤ (unbig ((xs.drop (2 * k)).take 2))))]), rB g42 70 ([.int .i64 ((ntE xs k).1), .bool (decide (32768 ≤ (unbig ((xs.drop (2 * k)).take 2))))])] := Hold.setB H11 1 rfl b19 c19 rfl
          clear H11
          clear b19 c19
          refine re (be ?_)
          refine gen (fun ρ => ρ 0 = v ∧ ρ 2 = .pointer (some ⟨g2, 0, none⟩) ∧ ρ 3 = .pointer (some ⟨g3, 0, none⟩) ∧ ρ 4 = .int .i64 (2 * k : Nat) ∧ True) ⟨z0, z2, z3, z4, trivial⟩ ?_
          rintro ρ ⟨z0, z2, z3, z4, -⟩
          refine rg (r (mv z4) (r (ad ((2 * (k + 1) : Nat)) rfl rfl (by omega)) (r (sa rfl) (re ?_))))
          have H13 : Hold w [] w19 [rB g2 86 ([.bool false, .slice none 0 0]), rB g3 86 ([.bool true, v43_15]), rR kE 70 v43_15 ((entsB xs k) ++ [((ntE xs k).1, decide (32768 ≤ (unbig ((xs.drop (2 * k)).take 2))))])] := (show Hold w [] w19 ([rB g2 86 ([.bool false, .slice none 0 0]), rB g3 86 ([.bool true, v43_15]), rR kE 70 v43_15 ((entsB xs k) ++ [((ntE xs k).1, decide (32768 ≤ (unbig ((xs.drop (2 * k)).take 2))))])] ++ [rB g6 70 ([.int .i64 ((ntE xs k).1), .bool (decide (32768 ≤ (unbig ((xs.drop (2 * k)).take 2))))]), rB g42 70 ([.int .i64 ((ntE xs k).1), .bool (decide (32768 ≤ (unbig ((xs.drop (2 * k)).take 2))))])]) from Hold.re H12 [0, 1, 2, 3, 4] (by rfl) (by rfl)).drop
          clear H12
          exact ag (k + 1, v43_15) ⟨z0, z2, z3, rfl, (by rw [entsB_succ]; exact H13), ⟨by omega, ents_snoc hok hv⟩⟩ (by first | omega | (dsimp only; omega))
      · obtain rfl : k = m := by omega
        have hD : decTable xs = (true, entsB xs k) := by
          have e2 : xs.length / 2 = k := by omega
          rw [decTable, if_pos ⟨by omega, by omega, by rw [e2]; exact hok⟩, e2]
        rw [hD]
        have b5 : B w505 g3 86 ([.bool true, o]) := Hold.blk H5 1 rfl
        have b6 : B w505 g2 86 ([.bool false, .slice none 0 0]) := Hold.blk H5 0 rfl
        obtain ⟨_, R8⟩ : ∃ F, Kd.R kE w505 F o (entsB xs k) := Hold.row H5 2 rfl
        refine ex rfl (sq (rg (r (lab [.bool true, o] Try.underlying86 rfl ti86 y3 b5 rfl rfl) (ef0 (xst (vs := [.bool true, o]) ti86 y2 rfl rfl b6 rfl (Nat.le_of_ble_eq_true rfl) (oc rfl (oc (R8).oneCell on))) ?_))))
        rintro w7 ⟨-, b7, c7⟩
        have H6 : Hold w [] w7 [rB g2 86 ([.bool true, o]), rB g3 86 ([.bool true, o]), rR kE 70 o (entsB xs k)] := Hold.setB H5 0 rfl b7 c7 rfl
        clear H5
        clear b7 c7
        refine re (rt ?_)
        have b9 : B w7 g2 86 ([.bool true, o]) := Hold.blk H6 0 rfl
        have H7 : Hold w [] w7 [rR kE 70 o (entsB xs k)] := (show Hold w [] w7 ([rR kE 70 o (entsB xs k)] ++ [rB g2 86 ([.bool true, o]), rB g3 86 ([.bool true, o])]) from Hold.re H6 [2, 0, 1] (by rfl) (by rfl)).drop
        clear H6
        exact finc  (cs := [.bool true, o]) Try.results65 Try.underlying86 rfl ti86 y2 b9 rfl  ⟨_, rfl, H7⟩
theorem impl_DecodeTable {w : World} {F : List Nat} {v : Value} {xs : List Int} (hx : u8.R w F v xs) (lx : xs.length ≤ 1000000000) (ok : ok8 xs) :
    Ret Try.prog 66 #[v] w (fun r w' => ∃ t, r = .agg #[.bool (decTable xs).1, t] ∧ Hold w [] w' [rR kE 70 t (decTable xs).2]) := by
  refine enter Try.func66 rfl Try.ntmps66 (by rfl) (by rfl) ?_
  have H0 : Hold w [] w [] := Hold.start w
  refine sq (rg (ef (xal ti86) ?_))
  rintro _ w1 ⟨g2, e1, rfl, -, b1, c1⟩
  have H1 : Hold w [] w1 [rB g2 86 ([.bool false, .slice none 0 0])] := Hold.newB H0 e1 b1 c1
  clear H0
  clear e1 b1 c1
  refine re (sq (sq (rg (r (mv rfl) (r (ln Try.underlying40 rfl ((hx.t (Hold.ch H1)))) (r (rm ((xs.length : Int) % 2) rfl rfl ⟨by omega, by rw [Int.tmod_eq_emod_of_nonneg (by omega)]⟩) (r (bi rfl rfl rfl) (r (mv rfl) ?_))))))))
  refine spn 11 rfl (fun h0 => ?_) (fun h0 => ?_)
  · refine gn rfl rfl rfl (gn rfl rfl rfl (gn rfl rfl rfl (r (pk rfl rfl) (re (ct rfl (sq ?_))))))
    refine gen (fun ρ => ρ 0 = v ∧ ρ 2 = .pointer (some ⟨g2, 0, none⟩) ∧ True) ⟨rfl, rfl, trivial⟩ ?_
    rintro ρ ⟨z0, z2, -⟩
    have b2 : B w1 g2 86 ([.bool false, .slice none 0 0]) := Hold.blk H1 0 rfl
    refine rg (r (bd (r := [.bool false, .slice none 0 0]) ti86 pl86 pn rfl) (ef0 (xst (vs := [.bool false, .slice none 0 0]) ti86 z2 rfl rfl b2 rfl (Nat.le_of_ble_eq_true rfl) (one_all rfl)) ?_))
    rintro w3 ⟨-, b3, c3⟩
    have H2 : Hold w [] w3 [rB g2 86 ([.bool false, .slice none 0 0])] := Hold.setB H1 0 rfl b3 c3 rfl
    clear H1
    clear b3 c3
    refine re (rt ?_)
    rw [show decTable xs = (false, []) from if_neg (fun e => h0 (by have := e.1; omega))]
    have H3 : Hold w [] w3 [rB g2 86 ([.bool false, .slice none 0 0]), rR kE 70 (.slice none 0 0) ([])] := Hold.nilrow kE 70 H2
    clear H2
    have b4 : B w3 g2 86 ([.bool false, .slice none 0 0]) := Hold.blk H3 0 rfl
    have H4 : Hold w [] w3 [rR kE 70 (.slice none 0 0) ([])] := (show Hold w [] w3 ([rR kE 70 (.slice none 0 0) ([])] ++ [rB g2 86 ([.bool false, .slice none 0 0])]) from Hold.re H3 [1, 0] (by rfl) (by rfl)).drop
    clear H3
    exact finc  (cs := [.bool false, .slice none 0 0]) Try.results66 Try.underlying86 rfl ti86 z2 b4 rfl  ⟨_, rfl, H4⟩
  · refine gy rfl rfl rfl (r (mv rfl) (gy rfl rfl rfl (r (ln Try.underlying40 rfl ((hx.t (Hold.ch H1)))) (gy rfl rfl rfl (r (bi rfl rfl rfl) (r (pk rfl rfl) (re ?_)))))))
    refine cp rfl (fun hc => ?_) (fun hc => ?_)
    · refine sq ?_
      refine gen (fun ρ => ρ 0 = v ∧ ρ 2 = .pointer (some ⟨g2, 0, none⟩) ∧ True) ⟨rfl, rfl, trivial⟩ ?_
      rintro ρ ⟨z0, z2, -⟩
      have b2 : B w1 g2 86 ([.bool false, .slice none 0 0]) := Hold.blk H1 0 rfl
      refine rg (r (bd (r := [.bool false, .slice none 0 0]) ti86 pl86 pn rfl) (ef0 (xst (vs := [.bool false, .slice none 0 0]) ti86 z2 rfl rfl b2 rfl (Nat.le_of_ble_eq_true rfl) (one_all rfl)) ?_))
      rintro w3 ⟨-, b3, c3⟩
      have H2 : Hold w [] w3 [rB g2 86 ([.bool false, .slice none 0 0])] := Hold.setB H1 0 rfl b3 c3 rfl
      clear H1
      clear b3 c3
      refine re (rt ?_)
      rw [show decTable xs = (false, []) from if_neg (fun e => by have := e.2.1; omega)]
      have H3 : Hold w [] w3 [rB g2 86 ([.bool false, .slice none 0 0]), rR kE 70 (.slice none 0 0) ([])] := Hold.nilrow kE 70 H2
      clear H2
      have b4 : B w3 g2 86 ([.bool false, .slice none 0 0]) := Hold.blk H3 0 rfl
      have H4 : Hold w [] w3 [rR kE 70 (.slice none 0 0) ([])] := (show Hold w [] w3 ([rR kE 70 (.slice none 0 0) ([])] ++ [rB g2 86 ([.bool false, .slice none 0 0])]) from Hold.re H3 [1, 0] (by rfl) (by rfl)).drop
      clear H3
      exact finc  (cs := [.bool false, .slice none 0 0]) Try.results66 Try.underlying86 rfl ti86 z2 b4 rfl  ⟨_, rfl, H4⟩
    · obtain ⟨m, hm⟩ : ∃ m, xs.length = 2 * m := ⟨xs.length / 2, by omega⟩
      refine sk (sq ?_)
      refine gen (fun ρ => ρ 0 = v ∧ ρ 2 = .pointer (some ⟨g2, 0, none⟩) ∧ True) ⟨rfl, rfl, trivial⟩ ?_
      rintro ρ ⟨z0, z2, -⟩
      refine rg (r (sa rfl) (re (sq (rg (r (mv z0) (r (bd (r := [v]) ti153 pl153 (pc rfl (cel1 ((hx.t (Hold.ch H1))).oneCell) pn) rfl) (ef (xal ti153) ?_)))))))
      rintro _ w2 ⟨g4, e2, rfl, -, b2, c2⟩
      have H2 : Hold w [] w2 [rB g2 86 ([.bool false, .slice none 0 0]), rB g4 153 ([.slice none 0 0])] := Hold.newB H1 e2 b2 c2
      clear H1
      clear e2 b2 c2
      have b3 : B w2 g4 153 ([.slice none 0 0]) := Hold.blk H2 1 rfl
      refine ef0 (xst (vs := [v]) ti153 rfl rfl rfl b3 rfl (Nat.le_of_ble_eq_true rfl) (oc ((hx.t (Hold.ch H2))).oneCell on)) ?_
      rintro w4 ⟨-, b4, c4⟩
      have H3 : Hold w [] w4 [rB g2 86 ([.bool false, .slice none 0 0]), rB g4 153 ([v])] := Hold.setB H2 1 rfl b4 c4 rfl
      clear H2
      clear b4 c4
      refine re (sq (bl ?_))
      have H4 : Hold w [] w4 [rB g2 86 ([.bool false, .slice none 0 0]), rB g4 153 ([v]), rR kE 70 (.slice none 0 0) ([])] := Hold.nilrow kE 70 H3
      clear H3
      refine lp (α := Nat × Value × Value × List Nat) (fun (k, o, s, G) ρ w' => ρ 0 = v ∧ ρ 2 = .pointer (some ⟨g2, 0, none⟩) ∧ ρ 3 = o ∧ ρ 4 = .pointer (some ⟨g4, 0, none⟩) ∧ Hold w [] w' [rB g2 86 ([.bool false, .slice none 0 0]), rB g4 153 ([s]), rR kE 70 o (entsB xs k)] ∧ k ≤ m ∧ (∀ x, x ∈ entsB xs k → ent x) ∧ u8.R w G s (xs.drop (2 * k))) (fun (k, o, s, G) => m - k) (0, .slice none 0 0, v, F) ?_ ?_
      · exact ⟨z0, z2, rfl, rfl, (by simpa [entsB] using H4), ⟨by omega, by simp [entsB], by simpa using hx⟩⟩
      clear H4
      rintro ⟨k, o, s, G⟩ ρ w505 ⟨y0, y2, y3, y4, H5, ⟨hk, hok, hR⟩⟩
      have b5 : B w505 g4 153 ([s]) := Hold.blk H5 1 rfl
      refine sq (sq (rg (r (fa Try.underlying153 rfl ti40 rfl y4) (r (ldb Try.underlying40 rfl rfl b5 rfl) (r (ln Try.underlying40 rfl ((hR.t (Hold.ch H5)))) (r (bi rfl rfl rfl) (re ?_)))))))
      refine cp rfl (fun hlt => ?_) (fun hlt => ?_)
      · simp only [List.length_drop] at hlt
        have hk' : k < m := by omega
        obtain ⟨hu1, hu2⟩ := two_at ok (i := k) (by omega)
        have hel := entsB_len xs k
        have H6 : Hold w [] w505 [rB g4 153 ([s]), rB g2 86 ([.bool false, .slice none 0 0]), rR kE 70 o (entsB xs k)] := Hold.re H5 [1, 0, 2] (by rfl) (by rfl)
        clear H5
        obtain ⟨F6, hF6, n6, s6, K6⟩ := Hold.front (Γ := [rB g4 153 ([s])]) (Δ := [rB g2 86 ([.bool false, .slice none 0 0]), rR kE 70 o (entsB xs k)]) H6
        refine sk (bl (sq (rg (cl go121 ((num (n := 2) hF6 n6 (hR.t (Hold.ch H6)) (dis_of0 hR.lt s6) (by simp; omega) (by omega) (ok8_drop ok _)).ret (fun c w2 hp => by have h9 := hp.1; simp only [List.length_drop] at h9; omega)) (ac y4 (ac rfl an)) ?_))))
        rintro r wn ⟨-, er, Hn⟩
        rw [i64_id ⟨by omega, by omega⟩] at er
        subst er
        have H7 : Hold w [] wn [rB g4 153 ([slv s 2 (xs.drop (2 * k)).length 1]), rB g2 86 ([.bool false, .slice none 0 0]), rR kE 70 o (entsB xs k)] := Hold.call K6 Hn
        clear H6
        clear K6 hF6 n6 s6
        clear Hn
        refine r (sa rfl) (re (sq (rg (r (mv rfl) (r (rm ((ntE xs k).1) rfl rfl ⟨by omega, by rw [Int.tmod_eq_emod_of_nonneg hu1]; rfl⟩) (r (mv rfl) (r (bi rfl rfl rfl) (r (bd (r := [.int .i64 ((ntE xs k).1), .bool (decide (32768 ≤ (unbig ((xs.drop (2 * k)).take 2))))]) ti70 pl70 (pc rfl (cel1 rfl) (pc rfl (cel1 rfl) pn)) rfl) (ef (xal ti70) ?_)))))))))
        rintro _ w7 ⟨g6, e7, rfl, -, b7, c7⟩
        have H8 : Hold w [] w7 [rB g4 153 ([slv s 2 (xs.drop (2 * k)).length 1]), rB g2 86 ([.bool false, .slice none 0 0]), rR kE 70 o (entsB xs k), rB g6 70 ([.int .i64 0, .bool false])] := Hold.newB H7 e7 b7 c7
        clear H7
        clear e7 b7 c7
        have b8 : B w7 g6 70 ([.int .i64 0, .bool false]) := Hold.blk H8 3 rfl
        refine ef0 (xst (vs := [.int .i64 ((ntE xs k).1), .bool (decide (32768 ≤ (unbig ((xs.drop (2 * k)).take 2))))]) ti70 rfl rfl rfl b8 rfl (Nat.le_of_ble_eq_true rfl) (one_all rfl)) ?_
        rintro w9 ⟨-, b9, c9⟩
        have H9 : Hold w [] w9 [rB g4 153 ([slv s 2 (xs.drop (2 * k)).length 1]), rB g2 86 ([.bool false, .slice none 0 0]), rR kE 70 o (entsB xs k), rB g6 70 ([.int .i64 ((ntE xs k).1), .bool (decide (32768 ≤ (unbig ((xs.drop (2 * k)).take 2))))])] := Hold.setB H8 3 rfl b9 c9 rfl
        clear H8
        clear b9 c9
        refine re (sq (sq ?_))
        refine gen (fun ρ => ρ 0 = v ∧ ρ 2 = .pointer (some ⟨g2, 0, none⟩) ∧ ρ 3 = o ∧ ρ 4 = .pointer (some ⟨g4, 0, none⟩) ∧ ρ 6 = .pointer (some ⟨g6, 0, none⟩) ∧ True) ⟨y0, y2, y3, y4, rfl, trivial⟩ ?_
        rintro ρ ⟨z0, z2, z3, z4, z6, -⟩
        have b10 : B w9 g6 70 ([.int .i64 ((ntE xs k).1), .bool (decide (32768 ≤ (unbig ((xs.drop (2 * k)).take 2))))]) := Hold.blk H9 3 rfl
        refine rg (r (lab [.int .i64 ((ntE xs k).1), .bool (decide (32768 ≤ (unbig ((xs.drop (2 * k)).take 2))))] Try.underlying70 rfl ti70 z6 b10 rfl rfl) ?_)
        refine cl go107 (Entry_valid (x := ntE xs k)) (ac rfl an) ?_
        rintro r we ⟨rfl, ce⟩
        have H10 : Hold w [] we [rB g4 153 ([slv s 2 (xs.drop (2 * k)).length 1]), rB g2 86 ([.bool false, .slice none 0 0]), rR kE 70 o (entsB xs k), rB g6 70 ([.int .i64 ((ntE xs k).1), .bool (decide (32768 ≤ (unbig ((xs.drop (2 * k)).take 2))))])] := Hold.t H9 ce
        clear H9
        clear ce
        refine r (nt rfl) (re ?_)
        refine cpn rfl (fun hv => ?_) (fun hv => ?_)
        · have b12 : B we g2 86 ([.bool false, .slice none 0 0]) := Hold.blk H10 1 rfl
          refine sq (rg (r (bd (r := [.bool false, .slice none 0 0]) ti86 pl86 pn rfl) (ef0 (xst (vs := [.bool false, .slice none 0 0]) ti86 z2 rfl rfl b12 rfl (Nat.le_of_ble_eq_true rfl) (one_all rfl)) ?_)))
          rintro w13 ⟨-, b13, c13⟩
          have H11 : Hold w [] w13 [rB g4 153 ([slv s 2 (xs.drop (2 * k)).length 1]), rB g2 86 ([.bool false, .slice none 0 0]), rR kE 70 o (entsB xs k), rB g6 70 ([.int .i64 ((ntE xs k).1), .bool (decide (32768 ≤ (unbig ((xs.drop (2 * k)).take 2))))])] := Hold.setB H10 1 rfl b13 c13 rfl
          clear H10
          clear b13 c13
          refine re (rt ?_)
          rw [show decTable xs = (false, []) from if_neg (fun e => hv (entsB_all (by omega) e.2.2))]
          have H12 : Hold w [] w13 [rB g4 153 ([slv s 2 (xs.drop (2 * k)).length 1]), rB g2 86 ([.bool false, .slice none 0 0]), rR kE 70 o (entsB xs k), rB g6 70 ([.int .i64 ((ntE xs k).1), .bool (decide (32768 ≤ (unbig ((xs.drop (2 * k)).take 2))))]), rR kE 70 (.slice none 0 0) ([])] := Hold.nilrow kE 70 H11
          clear H11
          have b14 : B w13 g2 86 ([.bool false, .slice none 0 0]) := Hold.blk H12 1 rfl
          have H13 : Hold w [] w13 [rR kE 70 (.slice none 0 0) ([])] := (show Hold w [] w13 ([rR kE 70 (.slice none 0 0) ([])] ++ [rB g4 153 ([slv s 2 (xs.drop (2 * k)).length 1]), rB g2 86 ([.bool false, .slice none 0 0]), rR kE 70 o (entsB xs k), rB g6 70 ([.int .i64 ((ntE xs k).1), .bool (decide (32768 ≤ (unbig ((xs.drop (2 * k)).take 2))))])]) from Hold.re H12 [4, 0, 1, 2, 3] (by rfl) (by rfl)).drop
          clear H12
          exact finc  (cs := [.bool false, .slice none 0 0]) Try.results66 Try.underlying86 rfl ti86 z2 b14 rfl  ⟨_, rfl, H13⟩
        · have b12 : B we g6 70 ([.int .i64 ((ntE xs k).1), .bool (decide (32768 ≤ (unbig ((xs.drop (2 * k)).take 2))))]) := Hold.blk H10 3 rfl
          refine sk (rg (r (mv z3) (r (lab [.int .i64 ((ntE xs k).1), .bool (decide (32768 ≤ (unbig ((xs.drop (2 * k)).take 2))))] Try.underlying70 rfl ti70 z6 b12 rfl rfl) (ef (xbs1 (cs := [.int .i64 ((ntE xs k).1), .bool (decide (32768 ≤ (unbig ((xs.drop (2 * k)).take 2))))]) Try.underlying57 ti70 rfl rfl rfl rfl rfl) ?_))))
          rintro _ w13 ⟨g35, e13, rfl, -, b13, c13⟩
          have H11 : Hold w [] w13 [rB g4 153 ([slv s 2 (xs.drop (2 * k)).length 1]), rB g2 86 ([.bool false, .slice none 0 0]), rR kE 70 o (entsB xs k), rB g6 70 ([.int .i64 ((ntE xs k).1), .bool (decide (32768 ≤ (unbig ((xs.drop (2 * k)).take 2))))]), rB g35 70 ([.int .i64 ((ntE xs k).1), .bool (decide (32768 ≤ (unbig ((xs.drop (2 * k)).take 2))))])] := Hold.newB H10 e13 b13 c13
          clear H10
          clear e13 b13 c13
          have b15 : B w13 g35 70 ([.int .i64 ((ntE xs k).1), .bool (decide (32768 ≤ (unbig ((xs.drop (2 * k)).take 2))))]) := Hold.blk H11 4 rfl
          obtain ⟨F16, P16, n16, s16, K16⟩ := Hold.pick H11 2 rfl
          replace P16 : Kd.W kE 70 w13 F16 o (entsB xs k) := P16
          refine ef (xapb (ys := [((ntE xs k).1, decide (32768 ≤ (unbig ((xs.drop (2 * k)).take 2))))]) Try.underlying57 ti70 rfl rfl rfl P16 b15 (els_one (R := Kd.O kE _) (show Kd.O kE _ [] ((ntE xs k).1, decide (32768 ≤ (unbig ((xs.drop (2 * k)).take 2)))) _ from ⟨[], [], [_], [_], rfl, rfl, ⟨rfl, rfl⟩, ⟨rfl, rfl⟩⟩)) (nodup_nil n16) (by simp; omega)) ?_
          rintro v36_14 w14 ⟨F14, A14⟩
          have H12 : Hold w [] w14 [rB g4 153 ([slv s 2 (xs.drop (2 * k)).length 1]), rB g2 86 ([.bool false, .slice none 0 0]), rR kE 70 v36_14 ((entsB xs k) ++ [((ntE xs k).1, decide (32768 ≤ (unbig ((xs.drop (2 * k)).take 2))))]), rB g6 70 ([.int .i64 ((ntE xs k).1), .bool (decide (32768 ≤ (unbig ((xs.drop (2 * k)).take 2))))]), rB g35 70 ([.int .i64 ((ntE xs k).1), .bool (decide (32768 ≤ (unbig ((xs.drop (2 * k)).take 2))))])] := Hold.apd K16 P16 A14 rfl
          clear H11
          clear A14 K16 P16 n16 s16
          refine r (sa rfl) (re (be ?_))
          obtain ⟨G', _, hR'⟩ := hR.sl 2 (xs.drop (2 * k)).length (by simp; omega) (Nat.le_refl _)
          rw [List.take_length, List.drop_drop] at hR'
          have H13 : Hold w [] w14 [rB g2 86 ([.bool false, .slice none 0 0]), rB g4 153 ([slv s 2 (xs.drop (2 * k)).length 1]), rR kE 70 v36_14 ((entsB xs k) ++ [((ntE xs k).1, decide (32768 ≤ (unbig ((xs.drop (2 * k)).take 2))))])] := (show Hold w [] w14 ([rB g2 86 ([.bool false, .slice none 0 0]), rB g4 153 ([slv s 2 (xs.drop (2 * k)).length 1]), rR kE 70 v36_14 ((entsB xs k) ++ [((ntE xs k).1, decide (32768 ≤ (unbig ((xs.drop (2 * k)).take 2))))])] ++ [rB g6 70 ([.int .i64 ((ntE xs k).1), .bool (decide (32768 ≤ (unbig ((xs.drop (2 * k)).take 2))))]), rB g35 70 ([.int .i64 ((ntE xs k).1), .bool (decide (32768 ≤ (unbig ((xs.drop (2 * k)).take 2))))])]) from Hold.re H12 [1, 0, 2, 3, 4] (by rfl) (by rfl)).drop
          clear H12
          exact ag (k + 1, v36_14, slv s 2 (xs.drop (2 * k)).length 1, G') ⟨z0, z2, rfl, z4, (by rw [entsB_succ]; exact H13), ⟨by omega, ents_snoc hok hv, by rw [show 2 * (k + 1) = 2 * k + 2 by omega]; exact hR'⟩⟩ (by first | omega | (dsimp only; omega))
      · simp only [List.length_drop] at hlt
        obtain rfl : k = m := by omega
        have hD : decTable xs = (true, entsB xs k) := by
          have e2 : xs.length / 2 = k := by omega
          rw [decTable, if_pos ⟨by omega, by omega, by rw [e2]; exact hok⟩, e2]
        rw [hD]
        obtain ⟨_, R6⟩ : ∃ F, Kd.R kE w505 F o (entsB xs k) := Hold.row H5 2 rfl
        have b7 : B w505 g2 86 ([.bool false, .slice none 0 0]) := Hold.blk H5 0 rfl
        refine ex rfl (sq (rg (r (mv y3) (r (bd (r := [.bool true, o]) ti86 pl86 (pc rfl (cel1 rfl) (pc rfl (cel1 (R6).oneCell) pn)) rfl) (ef0 (xst (vs := [.bool true, o]) ti86 y2 rfl rfl b7 rfl (Nat.le_of_ble_eq_true rfl) (oc rfl (oc (R6).oneCell on))) ?_)))))
        rintro w8 ⟨-, b8, c8⟩
        have H6 : Hold w [] w8 [rB g2 86 ([.bool true, o]), rB g4 153 ([s]), rR kE 70 o (entsB xs k)] := Hold.setB H5 0 rfl b8 c8 rfl
        clear H5
        clear b8 c8
        refine re (rt ?_)
        have b9 : B w8 g2 86 ([.bool true, o]) := Hold.blk H6 0 rfl
        have H7 : Hold w [] w8 [rR kE 70 o (entsB xs k)] := (show Hold w [] w8 ([rR kE 70 o (entsB xs k)] ++ [rB g2 86 ([.bool true, o]), rB g4 153 ([s])]) from Hold.re H6 [2, 0, 1] (by rfl) (by rfl)).drop
        clear H6
        exact finc  (cs := [.bool true, o]) Try.results66 Try.underlying86 rfl ti86 y2 b9 rfl  ⟨_, rfl, H7⟩
end Go.Proofs.Ytgpcanjmgdmdhaa
