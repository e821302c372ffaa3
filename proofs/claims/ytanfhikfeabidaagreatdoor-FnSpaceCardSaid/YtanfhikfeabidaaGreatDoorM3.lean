/-
  SEVERAL TEXTS OF MY OWN IN ONE: 21, 22, 38, 39, 40, 42, 45, Rnd, 50, 51, 52, Two, Str, Dyn, Mw, 90, 91. No condition.
-/
import Derived.Test.YtanfhikfeabidaaGreatDoorM2
import Derived.RangeFuncNested
import Derived.RangeFuncLeaves
import Derived.RangeFuncCalls
import Derived.TacticsInMore
import Derived.LoopIn
import Derived.Lib.Builder
import Derived.Lib.LaidTab
import Derived.Lib.AppendIntMem
import Derived.Laws.Pointers
import Derived.Deep.AppendSrc
import Derived.Lib.IndexBytes
import Derived.Maps.RangeRun
namespace Go.Proofs.YtanfhikfeabidaaGreatDoor
open Go Go.Eng
set_option maxRecDepth 100000
set_option maxHeartbeats 4000000
set_option linter.unusedVariables false
set_option linter.unusedSimpArgs false
def decE (v : Int) : Int × Bool := (v % 32768, decide (32768 ≤ v))
/-- Entry number i of a table's bytes. -/
def ntE (xs : List Int) (i : Nat) : Int × Bool := decE (unbig ((xs.drop (2 * i)).take 2))
def entsB (xs : List Int) (n : Nat) : List (Int × Bool) := (List.range n).map (ntE xs)
theorem entsB_succ (xs : List Int) (n : Nat) : entsB xs (n + 1) = entsB xs n ++ [ntE xs n] := by simp [entsB, List.range_succ]
theorem entsB_len (xs : List Int) (n : Nat) : (entsB xs n).length = n := by simp [entsB]
def decOk (xs : List Int) : Prop := xs.length % 2 = 0 ∧ xs.length ≤ 2048 ∧ ∀ x, x ∈ entsB xs (xs.length / 2) → ent x
instance (xs : List Int) : Decidable (decOk xs) := by unfold decOk; infer_instance
def decTable (xs : List Int) : Bool × List (Int × Bool) := if decOk xs then (true, entsB xs (xs.length / 2)) else (false, [])
theorem entsB_all {xs : List Int} {n k : Nat} (hk : k < n) (h : ∀ x, x ∈ entsB xs n → ent x) : ent (ntE xs k) := h _ (List.mem_map.2 ⟨k, by simpa using hk, rfl⟩)
theorem ents_snoc {xs : List Int} {n : Nat} (h : ∀ x, x ∈ entsB xs n → ent x) (h' : ent (ntE xs n)) : ∀ x, x ∈ entsB xs (n + 1) → ent x := by
  rw [entsB_succ]
  intro x hx
  rcases List.mem_append.1 hx with hx | hx
  · exact h x hx
  · rw [List.mem_singleton.1 hx]; exact h'
theorem two_at {xs : List Int} (ok : ok8 xs) {i : Nat} (h : 2 * i + 2 ≤ xs.length) : 0 ≤ unbig ((xs.drop (2 * i)).take 2) ∧ unbig ((xs.drop (2 * i)).take 2) ≤ 65535 := ⟨unbig_nn (ok8_take (ok8_drop ok _) _), unbig_2 (ok8_take (ok8_drop ok _) _) (by simp; omega)⟩
theorem impl_DecodeTable {w : World} {F : List Nat} {v : Value} {xs : List Int} (hx : u8.R w F v xs) (lx : xs.length ≤ 1000000000) (ok : ok8 xs) :
    Ret Tryz.prog 41 #[v] w (fun r w' => ∃ t, r = .agg #[.bool (decTable xs).1, t] ∧ Hold w [] w' [rR kE 115 t (decTable xs).2]) := by
  refine enter Tryz.func41 rfl Tryz.ntmps41 (by rfl) (by rfl) ?_
  have H0 : Hold w [] w [] := Hold.start w
  refine sq (rg (ef (xal ti111) ?_))
  rintro _ w1 ⟨g2, e1, rfl, -, b1, c1⟩
  have H1 : Hold w [] w1 [rB g2 111 ([.bool false, .slice none 0 0])] := Hold.newB H0 e1 b1 c1
  clear H0
  clear e1 b1 c1
  refine re (sq (sq (rg (r (mv rfl) (r (ln Tryz.underlying22 rfl ((hx.t (Hold.ch H1)))) (r (rm (a := (xs.length : Int)) (b := 2) ((xs.length : Int) % 2) rfl rfl ⟨by omega, by rw [Int.tmod_eq_emod_of_nonneg (by omega)]⟩) (r (bi rfl rfl rfl) (r (mv rfl) ?_))))))))
  refine spn 11 rfl (fun h0 => ?_) (fun h0 => ?_)
  · refine gn rfl rfl rfl (gn rfl rfl rfl (gn rfl rfl rfl (r (pk rfl rfl) (re (ct rfl (sq ?_))))))
    refine gen (fun ρ => ρ 0 = v ∧ ρ 2 = .pointer (some ⟨g2, 0, none⟩) ∧ True) ⟨rfl, rfl, trivial⟩ ?_
    rintro ρ ⟨z0, z2, -⟩
    have b2 : B w1 g2 111 ([.bool false, .slice none 0 0]) := Hold.blk H1 0 rfl
    refine rg (r (bd (r := [.bool false, .slice none 0 0]) ti111 pl111 pn rfl) (ef0 (xst (vs := [.bool false, .slice none 0 0]) ti111 z2 rfl rfl b2 rfl (Nat.le_of_ble_eq_true rfl) (one_all rfl)) ?_))
    rintro w3 ⟨-, b3, c3⟩
    have H2 : Hold w [] w3 [rB g2 111 ([.bool false, .slice none 0 0])] := Hold.setB H1 0 rfl b3 c3 rfl
    clear H1
    clear b3 c3
    refine re (rt ?_)
    rw [show decTable xs = (false, []) from if_neg (fun e => h0 (by have := e.1; omega))]
    have H3 : Hold w [] w3 [rB g2 111 ([.bool false, .slice none 0 0]), rR kE 115 (.slice none 0 0) ([])] := Hold.nilrow kE 115 H2
    clear H2
    have b4 : B w3 g2 111 ([.bool false, .slice none 0 0]) := Hold.blk H3 0 rfl
    have H4 : Hold w [] w3 [rR kE 115 (.slice none 0 0) ([])] := (show Hold w [] w3 ([rR kE 115 (.slice none 0 0) ([])] ++ [rB g2 111 ([.bool false, .slice none 0 0])]) from Hold.re H3 [1, 0] (by kernel_rfl) (by rfl)).drop
    clear H3
    exact finc  (cs := [.bool false, .slice none 0 0]) Tryz.results41 Tryz.underlying111 rfl ti111 z2 b4 rfl  ⟨_, rfl, H4⟩
  · refine gy rfl rfl rfl (r (mv rfl) (gy rfl rfl rfl (r (ln Tryz.underlying22 rfl ((hx.t (Hold.ch H1)))) (gy rfl rfl rfl (r (bi rfl rfl rfl) (r (pk rfl rfl) (re ?_)))))))
    refine cp rfl (fun hc => ?_) (fun hc => ?_)
    · refine sq ?_
      refine gen (fun ρ => ρ 0 = v ∧ ρ 2 = .pointer (some ⟨g2, 0, none⟩) ∧ True) ⟨rfl, rfl, trivial⟩ ?_
      rintro ρ ⟨z0, z2, -⟩
      have b2 : B w1 g2 111 ([.bool false, .slice none 0 0]) := Hold.blk H1 0 rfl
      refine rg (r (bd (r := [.bool false, .slice none 0 0]) ti111 pl111 pn rfl) (ef0 (xst (vs := [.bool false, .slice none 0 0]) ti111 z2 rfl rfl b2 rfl (Nat.le_of_ble_eq_true rfl) (one_all rfl)) ?_))
      rintro w3 ⟨-, b3, c3⟩
      have H2 : Hold w [] w3 [rB g2 111 ([.bool false, .slice none 0 0])] := Hold.setB H1 0 rfl b3 c3 rfl
      clear H1
      clear b3 c3
      refine re (rt ?_)
      rw [show decTable xs = (false, []) from if_neg (fun e => by have := e.2.1; omega)]
      have H3 : Hold w [] w3 [rB g2 111 ([.bool false, .slice none 0 0]), rR kE 115 (.slice none 0 0) ([])] := Hold.nilrow kE 115 H2
      clear H2
      have b4 : B w3 g2 111 ([.bool false, .slice none 0 0]) := Hold.blk H3 0 rfl
      have H4 : Hold w [] w3 [rR kE 115 (.slice none 0 0) ([])] := (show Hold w [] w3 ([rR kE 115 (.slice none 0 0) ([])] ++ [rB g2 111 ([.bool false, .slice none 0 0])]) from Hold.re H3 [1, 0] (by kernel_rfl) (by rfl)).drop
      clear H3
      exact finc  (cs := [.bool false, .slice none 0 0]) Tryz.results41 Tryz.underlying111 rfl ti111 z2 b4 rfl  ⟨_, rfl, H4⟩
    · obtain ⟨m, hm⟩ : ∃ m, xs.length = 2 * m := ⟨xs.length / 2, by omega⟩
      refine sk (sq ?_)
      refine gen (fun ρ => ρ 0 = v ∧ ρ 2 = .pointer (some ⟨g2, 0, none⟩) ∧ True) ⟨rfl, rfl, trivial⟩ ?_
      rintro ρ ⟨z0, z2, -⟩
      refine rg (r (sa rfl) (re (sq (rg (r (mv z0) (r (bd (r := [v]) ti152 pl152 (pc rfl (cel1 ((hx.t (Hold.ch H1))).oneCell) pn) rfl) (ef (xal ti152) ?_)))))))
      rintro _ w2 ⟨g4, e2, rfl, -, b2, c2⟩
      have H2 : Hold w [] w2 [rB g2 111 ([.bool false, .slice none 0 0]), rB g4 152 ([.slice none 0 0])] := Hold.newB H1 e2 b2 c2
      clear H1
      clear e2 b2 c2
      have b3 : B w2 g4 152 ([.slice none 0 0]) := Hold.blk H2 1 rfl
      refine ef0 (xst (vs := [v]) ti152 rfl rfl rfl b3 rfl (Nat.le_of_ble_eq_true rfl) (oc ((hx.t (Hold.ch H2))).oneCell on)) ?_
      rintro w4 ⟨-, b4, c4⟩
      have H3 : Hold w [] w4 [rB g2 111 ([.bool false, .slice none 0 0]), rB g4 152 ([v])] := Hold.setB H2 1 rfl b4 c4 rfl
      clear H2
      clear b4 c4
      refine re (sq (bl ?_))
      have H4 : Hold w [] w4 [rB g2 111 ([.bool false, .slice none 0 0]), rB g4 152 ([v]), rR kE 115 (.slice none 0 0) ([])] := Hold.nilrow kE 115 H3
      clear H3
      refine lp (α := Nat × Value × Value × List Nat) (fun (k, o, s, G) ρ w' => ρ 0 = v ∧ ρ 2 = .pointer (some ⟨g2, 0, none⟩) ∧ ρ 3 = o ∧ ρ 4 = .pointer (some ⟨g4, 0, none⟩) ∧ Hold w [] w' [rB g2 111 ([.bool false, .slice none 0 0]), rB g4 152 ([s]), rR kE 115 o (entsB xs k)] ∧ k ≤ m ∧ (∀ x, x ∈ entsB xs k → ent x) ∧ u8.R w G s (xs.drop (2 * k))) (fun (k, o, s, G) => m - k) (0, .slice none 0 0, v, F) ?_ ?_
      · exact ⟨z0, z2, rfl, rfl, (by simpa [entsB] using H4), ⟨by omega, by simp [entsB], by simpa using hx⟩⟩
      clear H4
      rintro ⟨k, o, s, G⟩ ρ w505 ⟨y0, y2, y3, y4, H5, ⟨hk, hok, hR⟩⟩
      have b5 : B w505 g4 152 ([s]) := Hold.blk H5 1 rfl
      refine sq (sq (rg (r (fa Tryz.underlying152 rfl ti22 rfl y4) (r (ldb Tryz.underlying22 rfl rfl b5 rfl) (r (ln Tryz.underlying22 rfl ((hR.t (Hold.ch H5)))) (r (bi rfl rfl rfl) (re ?_)))))))
      refine cp rfl (fun hlt => ?_) (fun hlt => ?_)
      · simp only [List.length_drop] at hlt
        have hk' : k < m := by omega
        obtain ⟨hu1, hu2⟩ := two_at ok (i := k) (by omega)
        have hel := entsB_len xs k
        have H6 : Hold w [] w505 [rB g4 152 ([s]), rB g2 111 ([.bool false, .slice none 0 0]), rR kE 115 o (entsB xs k)] := Hold.re H5 [1, 0, 2] (by kernel_rfl) (by rfl)
        clear H5
        obtain ⟨F6, hF6, n6, s6, K6⟩ := Hold.front (Γ := [rB g4 152 ([s])]) (Δ := [rB g2 111 ([.bool false, .slice none 0 0]), rR kE 115 o (entsB xs k)]) H6
        refine sk (bl (sq (rg (cl go65 ((num (n := 2) hF6 n6 (hR.t (Hold.ch H6)) (dis_of0 hR.lt s6) (by simp; omega) (by omega) (ok8_drop ok _)).ret (fun c w2 hp => by have h9 := hp.1; simp only [List.length_drop] at h9; omega)) (ac y4 (ac rfl an)) ?_))))
        rintro r wn ⟨-, er, Hn⟩
        rw [i64_id ⟨by omega, by omega⟩] at er
        subst er
        have H7 : Hold w [] wn [rB g4 152 ([slv s 2 (xs.drop (2 * k)).length 1]), rB g2 111 ([.bool false, .slice none 0 0]), rR kE 115 o (entsB xs k)] := Hold.call K6 Hn
        clear H6
        clear K6 hF6 n6 s6
        clear Hn
        refine r (sa rfl) (re (sq (rg (r (mv rfl) (r (rm (a := unbig ((xs.drop (2 * k)).take 2)) (b := 32768) ((ntE xs k).1) rfl rfl ⟨by omega, by rw [Int.tmod_eq_emod_of_nonneg hu1]; rfl⟩) (r (mv rfl) (r (bi rfl rfl rfl) (r (bd (r := [.int .i64 ((ntE xs k).1), .bool (decide (32768 ≤ (unbig ((xs.drop (2 * k)).take 2))))]) ti115 pl115 (pc rfl (cel1 rfl) (pc rfl (cel1 rfl) pn)) rfl) (ef (xal ti115) ?_)))))))))
        rintro _ w7 ⟨g6, e7, rfl, -, b7, c7⟩
        have H8 : Hold w [] w7 [rB g4 152 ([slv s 2 (xs.drop (2 * k)).length 1]), rB g2 111 ([.bool false, .slice none 0 0]), rR kE 115 o (entsB xs k), rB g6 115 ([.int .i64 0, .bool false])] := Hold.newB H7 e7 b7 c7
        clear H7
        clear e7 b7 c7
        have b8 : B w7 g6 115 ([.int .i64 0, .bool false]) := Hold.blk H8 3 rfl
        refine ef0 (xst (vs := [.int .i64 ((ntE xs k).1), .bool (decide (32768 ≤ (unbig ((xs.drop (2 * k)).take 2))))]) ti115 rfl rfl rfl b8 rfl (Nat.le_of_ble_eq_true rfl) (one_all rfl)) ?_
        rintro w9 ⟨-, b9, c9⟩
        have H9 : Hold w [] w9 [rB g4 152 ([slv s 2 (xs.drop (2 * k)).length 1]), rB g2 111 ([.bool false, .slice none 0 0]), rR kE 115 o (entsB xs k), rB g6 115 ([.int .i64 ((ntE xs k).1), .bool (decide (32768 ≤ (unbig ((xs.drop (2 * k)).take 2))))])] := Hold.setB H8 3 rfl b9 c9 rfl
        clear H8
        clear b9 c9
        refine re (sq (sq ?_))
        refine gen (fun ρ => ρ 0 = v ∧ ρ 2 = .pointer (some ⟨g2, 0, none⟩) ∧ ρ 3 = o ∧ ρ 4 = .pointer (some ⟨g4, 0, none⟩) ∧ ρ 6 = .pointer (some ⟨g6, 0, none⟩) ∧ True) ⟨y0, y2, y3, y4, rfl, trivial⟩ ?_
        rintro ρ ⟨z0, z2, z3, z4, z6, -⟩
        have b10 : B w9 g6 115 ([.int .i64 ((ntE xs k).1), .bool (decide (32768 ≤ (unbig ((xs.drop (2 * k)).take 2))))]) := Hold.blk H9 3 rfl
        refine rg (r (lab [.int .i64 ((ntE xs k).1), .bool (decide (32768 ≤ (unbig ((xs.drop (2 * k)).take 2))))] Tryz.underlying115 rfl ti115 z6 b10 rfl rfl) ?_)
        refine cl go67 (Entry_valid (x := ntE xs k)) (ac rfl an) ?_
        rintro r we ⟨rfl, ce⟩
        have H10 : Hold w [] we [rB g4 152 ([slv s 2 (xs.drop (2 * k)).length 1]), rB g2 111 ([.bool false, .slice none 0 0]), rR kE 115 o (entsB xs k), rB g6 115 ([.int .i64 ((ntE xs k).1), .bool (decide (32768 ≤ (unbig ((xs.drop (2 * k)).take 2))))])] := Hold.t H9 ce
        clear H9
        clear ce
        refine r (nt rfl) (re ?_)
        refine cpn rfl (fun hv => ?_) (fun hv => ?_)
        · have b12 : B we g2 111 ([.bool false, .slice none 0 0]) := Hold.blk H10 1 rfl
          refine sq (rg (r (bd (r := [.bool false, .slice none 0 0]) ti111 pl111 pn rfl) (ef0 (xst (vs := [.bool false, .slice none 0 0]) ti111 z2 rfl rfl b12 rfl (Nat.le_of_ble_eq_true rfl) (one_all rfl)) ?_)))
          rintro w13 ⟨-, b13, c13⟩
          have H11 : Hold w [] w13 [rB g4 152 ([slv s 2 (xs.drop (2 * k)).length 1]), rB g2 111 ([.bool false, .slice none 0 0]), rR kE 115 o (entsB xs k), rB g6 115 ([.int .i64 ((ntE xs k).1), .bool (decide (32768 ≤ (unbig ((xs.drop (2 * k)).take 2))))])] := Hold.setB H10 1 rfl b13 c13 rfl
          clear H10
          clear b13 c13
          refine re (rt ?_)
          rw [show decTable xs = (false, []) from if_neg (fun e => hv (entsB_all (by omega) e.2.2))]
          have H12 : Hold w [] w13 [rB g4 152 ([slv s 2 (xs.drop (2 * k)).length 1]), rB g2 111 ([.bool false, .slice none 0 0]), rR kE 115 o (entsB xs k), rB g6 115 ([.int .i64 ((ntE xs k).1), .bool (decide (32768 ≤ (unbig ((xs.drop (2 * k)).take 2))))]), rR kE 115 (.slice none 0 0) ([])] := Hold.nilrow kE 115 H11
          clear H11
          have b14 : B w13 g2 111 ([.bool false, .slice none 0 0]) := Hold.blk H12 1 rfl
          have H13 : Hold w [] w13 [rR kE 115 (.slice none 0 0) ([])] := (show Hold w [] w13 ([rR kE 115 (.slice none 0 0) ([])] ++ [rB g4 152 ([slv s 2 (xs.drop (2 * k)).length 1]), rB g2 111 ([.bool false, .slice none 0 0]), rR kE 115 o (entsB xs k), rB g6 115 ([.int .i64 ((ntE xs k).1), .bool (decide (32768 ≤ (unbig ((xs.drop (2 * k)).take 2))))])]) from Hold.re H12 [4, 0, 1, 2, 3] (by kernel_rfl) (by rfl)).drop
          clear H12
          exact finc  (cs := [.bool false, .slice none 0 0]) Tryz.results41 Tryz.underlying111 rfl ti111 z2 b14 rfl  ⟨_, rfl, H13⟩
        · have b12 : B we g6 115 ([.int .i64 ((ntE xs k).1), .bool (decide (32768 ≤ (unbig ((xs.drop (2 * k)).take 2))))]) := Hold.blk H10 3 rfl
          refine sk (rg (r (mv z3) (r (lab [.int .i64 ((ntE xs k).1), .bool (decide (32768 ≤ (unbig ((xs.drop (2 * k)).take 2))))] Tryz.underlying115 rfl ti115 z6 b12 rfl rfl) (ef (xbs1 (cs := [.int .i64 ((ntE xs k).1), .bool (decide (32768 ≤ (unbig ((xs.drop (2 * k)).take 2))))]) Tryz.underlying58 ti115 rfl rfl rfl rfl rfl) ?_))))
          rintro _ w13 ⟨g35, e13, rfl, -, b13, c13⟩
          have H11 : Hold w [] w13 [rB g4 152 ([slv s 2 (xs.drop (2 * k)).length 1]), rB g2 111 ([.bool false, .slice none 0 0]), rR kE 115 o (entsB xs k), rB g6 115 ([.int .i64 ((ntE xs k).1), .bool (decide (32768 ≤ (unbig ((xs.drop (2 * k)).take 2))))]), rB g35 115 ([.int .i64 ((ntE xs k).1), .bool (decide (32768 ≤ (unbig ((xs.drop (2 * k)).take 2))))])] := Hold.newB H10 e13 b13 c13
          clear H10
          clear e13 b13 c13
          have b15 : B w13 g35 115 ([.int .i64 ((ntE xs k).1), .bool (decide (32768 ≤ (unbig ((xs.drop (2 * k)).take 2))))]) := Hold.blk H11 4 rfl
          obtain ⟨F16, P16, n16, s16, K16⟩ := Hold.pick H11 2 rfl
          replace P16 : Kd.W kE 115 w13 F16 o (entsB xs k) := P16
          refine ef (xapb (ys := [((ntE xs k).1, decide (32768 ≤ (unbig ((xs.drop (2 * k)).take 2))))]) Tryz.underlying58 ti115 rfl rfl rfl P16 b15 (els_one (R := Kd.O kE _) (show Kd.O kE _ [] ((ntE xs k).1, decide (32768 ≤ (unbig ((xs.drop (2 * k)).take 2)))) _ from ⟨[], [], [_], [_], rfl, rfl, ⟨rfl, rfl⟩, ⟨rfl, rfl⟩⟩)) (nodup_nil n16) (by simp; omega)) ?_
          rintro v36_14 w14 ⟨F14, A14⟩
          have H12 : Hold w [] w14 [rB g4 152 ([slv s 2 (xs.drop (2 * k)).length 1]), rB g2 111 ([.bool false, .slice none 0 0]), rR kE 115 v36_14 ((entsB xs k) ++ [((ntE xs k).1, decide (32768 ≤ (unbig ((xs.drop (2 * k)).take 2))))]), rB g6 115 ([.int .i64 ((ntE xs k).1), .bool (decide (32768 ≤ (unbig ((xs.drop (2 * k)).take 2))))]), rB g35 115 ([.int .i64 ((ntE xs k).1), .bool (decide (32768 ≤ (unbig ((xs.drop (2 * k)).take 2))))])] := Hold.apd K16 P16 A14 rfl
          clear H11
          clear A14 K16 P16 n16 s16
          refine r (sa rfl) (re (be ?_))
          obtain ⟨G', _, hR'⟩ := hR.sl 2 (xs.drop (2 * k)).length (by simp; omega) (Nat.le_refl _)
          rw [List.take_length, List.drop_drop] at hR'
          have H13 : Hold w [] w14 [rB g2 111 ([.bool false, .slice none 0 0]), rB g4 152 ([slv s 2 (xs.drop (2 * k)).length 1]), rR kE 115 v36_14 ((entsB xs k) ++ [((ntE xs k).1, decide (32768 ≤ (unbig ((xs.drop (2 * k)).take 2))))])] := (show Hold w [] w14 ([rB g2 111 ([.bool false, .slice none 0 0]), rB g4 152 ([slv s 2 (xs.drop (2 * k)).length 1]), rR kE 115 v36_14 ((entsB xs k) ++ [((ntE xs k).1, decide (32768 ≤ (unbig ((xs.drop (2 * k)).take 2))))])] ++ [rB g6 115 ([.int .i64 ((ntE xs k).1), .bool (decide (32768 ≤ (unbig ((xs.drop (2 * k)).take 2))))]), rB g35 115 ([.int .i64 ((ntE xs k).1), .bool (decide (32768 ≤ (unbig ((xs.drop (2 * k)).take 2))))])]) from Hold.re H12 [1, 0, 2, 3, 4] (by kernel_rfl) (by rfl)).drop
          clear H12
          exact ag (k + 1, v36_14, slv s 2 (xs.drop (2 * k)).length 1, G') ⟨z0, z2, rfl, z4, (by rw [entsB_succ]; exact H13), ⟨by omega, ents_snoc hok hv, by rw [show 2 * (k + 1) = 2 * k + 2 by omega]; exact hR'⟩⟩ (by first | omega | (dsimp only; omega))
      · simp only [List.length_drop] at hlt
        obtain rfl : k = m := by omega
        have hD : decTable xs = (true, entsB xs k) := by
          have e2 : xs.length / 2 = k := by omega
          rw [decTable, if_pos ⟨by omega, by omega, by rw [e2]; exact hok⟩, e2]
        rw [hD]
        obtain ⟨_, R6⟩ : ∃ F, Kd.R kE w505 F o (entsB xs k) := Hold.row H5 2 rfl
        have b7 : B w505 g2 111 ([.bool false, .slice none 0 0]) := Hold.blk H5 0 rfl
        refine ex rfl (sq (rg (r (mv y3) (r (bd (r := [.bool true, o]) ti111 pl111 (pc rfl (cel1 rfl) (pc rfl (cel1 (R6).oneCell) pn)) rfl) (ef0 (xst (vs := [.bool true, o]) ti111 y2 rfl rfl b7 rfl (Nat.le_of_ble_eq_true rfl) (oc rfl (oc (R6).oneCell on))) ?_)))))
        rintro w8 ⟨-, b8, c8⟩
        have H6 : Hold w [] w8 [rB g2 111 ([.bool true, o]), rB g4 152 ([s]), rR kE 115 o (entsB xs k)] := Hold.setB H5 0 rfl b8 c8 rfl
        clear H5
        clear b8 c8
        refine re (rt ?_)
        have b9 : B w8 g2 111 ([.bool true, o]) := Hold.blk H6 0 rfl
        have H7 : Hold w [] w8 [rR kE 115 o (entsB xs k)] := (show Hold w [] w8 ([rR kE 115 o (entsB xs k)] ++ [rB g2 111 ([.bool true, o]), rB g4 152 ([s])]) from Hold.re H6 [2, 0, 1] (by kernel_rfl) (by rfl)).drop
        clear H6
        exact finc  (cs := [.bool true, o]) Tryz.results41 Tryz.underlying111 rfl ti111 y2 b9 rfl  ⟨_, rfl, H7⟩
end Go.Proofs.YtanfhikfeabidaaGreatDoor

namespace Go.Proofs.YtanfhikfeabidaaGreatDoor
open Go Go.Eng
set_option maxRecDepth 100000
set_option maxHeartbeats 4000000
set_option linter.unusedVariables false
set_option linter.unusedSimpArgs false
section
variable {w : World} {F : List Nat} {v : Value} {k : Int} {e : TypeId}
end
/-- A table that is marked. -/
def mkE (k : Int) (i : Nat) : Int × Bool := (k + 2 * (i : Int), decide ((k + 2 * (i : Int) + 1).tmod 3 = 0))
def marksE (k : Int) (n : Nat) : List (Int × Bool) := (List.range n).map (mkE k)
end Go.Proofs.YtanfhikfeabidaaGreatDoor

namespace Go.Proofs.YtanfhikfeabidaaGreatDoor
open Go Go.Eng
set_option maxRecDepth 100000
set_option maxHeartbeats 4000000
set_option linter.unusedVariables false
set_option linter.unusedSimpArgs false
end Go.Proofs.YtanfhikfeabidaaGreatDoor

namespace Go.Proofs.YtanfhikfeabidaaGreatDoor
open Go Go.Eng
set_option maxRecDepth 100000
set_option maxHeartbeats 4000000
set_option linter.unusedVariables false
set_option linter.unusedSimpArgs false
abbrev Dsk := List Int × List Wr
abbrev dwOk (xs : List Int) (ps : List Wr) (b : Int) (ys : List Int) : Prop := vdisk xs ps = true ∧ ps.length ≠ 400 ∧ 0 ≤ b ∧ b < blks xs ∧ ys.length = 64
def dwD (xs : List Int) (ps : List Wr) (b : Int) (ys : List Int) : Dsk := if dwOk xs ps b ys then (xs, ps ++ [(b, ys)]) else ([], [])
/-- What a law wants to know of a disk's lengths. -/
structure Sm (D : Dsk) : Prop where
  x : D.1.length ≤ 1000000
  p : D.2.length ≤ 1000000
  xx : ∀ x, x ∈ D.2 → x.2.length ≤ 1000000000
  sz : szW D.2 ≤ 1000000
theorem VD.len2 {xs : List Int} {ps : List Wr} (h : VD xs ps) : xs.length ≤ 76800 := by have := h.len; have := h.top; omega
theorem VD.h64 {xs : List Int} {ps : List Wr} (h : VD xs ps) : ∀ x, x ∈ ps → x.2.length = 64 := fun x hx => (h.ok x hx).2.2
attribute [irreducible] dwD
end Go.Proofs.YtanfhikfeabidaaGreatDoor

namespace Go.Proofs.YtanfhikfeabidaaGreatDoor
open Go Go.Eng
set_option maxRecDepth 100000
set_option maxHeartbeats 4000000
set_option linter.unusedVariables false
set_option linter.unusedSimpArgs false
/-- A write's first c bytes reach the disk. -/
def setl (xs : List Int) (x : Wr) (c : Nat) : List Int := xs.take (x.1.toNat * 64) ++ x.2.take c ++ xs.drop (x.1.toNat * 64 + (x.2.take c).length)
def stN (xs : List Int) (ps : List Wr) (f : Nat → Nat) : Nat → List Int
  | 0 => xs
  | k + 1 => match ps[k]? with
    | some x => setl (stN xs ps f k) x (f k)
    | none => stN xs ps f k
theorem stN_succ {xs : List Int} {ps : List Wr} {f : Nat → Nat} {k : Nat} (h : k < ps.length) : stN xs ps f (k + 1) = setl (stN xs ps f k) ps[k] (f k) := by
  simp only [stN, List.getElem?_eq_getElem h]
theorem setl_len {xs : List Int} {x : Wr} {c : Nat} (h : x.1.toNat * 64 + (x.2.take c).length ≤ xs.length) : (setl xs x c).length = xs.length := by
  simp only [setl, List.length_append, List.length_take, List.length_drop] at h ⊢; omega
theorem stN_len {xs : List Int} {ps : List Wr} {f : Nat → Nat} (V : VD xs ps) : ∀ k, (stN xs ps f k).length = xs.length := by
  intro k
  induction k with
  | zero => rfl
  | succ k ih =>
    by_cases h : k < ps.length
    · have hk := V.ok _ (List.getElem_mem h)
      have hb := V.at (b := ps[k].1) ⟨hk.1, hk.2.1⟩
      have h64 := hk.2.2
      rw [stN_succ h, setl_len (by simp only [List.length_take]; omega), ih]
    · simp only [stN, List.getElem?_eq_none (Nat.le_of_not_lt h)]; exact ih
/-- A row of which one element's own row is known by its value. -/
def rPin (r : Rs) (vd : Value) (ys : List Int) : Rs where
  P w F := r.P w F ∧ ∃ Fd, (∀ k, k ∈ Fd → k ∈ F) ∧ u8.R w Fd vd ys
  mv := fun {w w' F} hm ⟨h, Fd, hs, hR⟩ => ⟨r.mv hm h, Fd, hs, by
    obtain ⟨A, c, G, Fs, cs, rfl, hc, rfl, hG, he, hr⟩ := hR
    refine ⟨A, c, G, Fs, cs, rfl, hc, rfl, fun k hk => ?_, he.imp (fun G' x c hG' hx => Kd.mvK _ (fun k hk => hm k (hs k (List.mem_append_right _ (hG' k hk)))) hx), fun j u hu => ?_⟩
    · have h1 := hG k hk
      have h2 := hm k (hs k (List.mem_append_left _ hk))
      rw [Array.getElem?_eq_getElem h1] at h2
      exact (Array.getElem?_eq_some_iff.1 h2).1
    · obtain ⟨ad, e1, e2, e3⟩ := hr j u hu
      refine ⟨ad, e1, e2, ?_⟩
      rw [World.cell?_of_block (w := w) (by rw [add_block]; exact hm _ (hs _ (List.mem_append_left _ e2)))]
      exact e3⟩
  lt := fun h => r.lt h.1
theorem Hold.pin {w0 w : World} {F0 : List Nat} {Γ : List Rs} {e : TypeId} {v : Value} {ps : List Wr} (H : Hold w0 F0 w Γ) (i : Nat) (hi : Γ[i]? = some (rR kW e v ps)) (j : Nat) (hj : j < ps.length) (Δf : Value → List Rs) (hΔ : ∀ vd, Γ.set i (rPin (rR kW e v ps) vd ps[j].2) = Δf vd) :
    ∃ c ad vd, v = .slice (some ad) ps.length c ∧ (∀ m u, [Value.int .i64 ps[j].1, vd][m]? = some u → w.cell? ((ad.add (j * kW.sz)).add m) = some u) ∧ Hold w0 F0 w (Δf vd) := by
  obtain ⟨F, hP, n, s, K⟩ := H.pick i hi
  obtain ⟨c, ad, cs, e1, hp⟩ := Kd.R.place (Kd.W.R (show Kd.W kW e w F v ps from hP)) j hj
  obtain ⟨vd, Fd, hR, hs, hc⟩ := wr_at hp
  exact ⟨c, ad, vd, e1, hc, K w (rPin (rR kW e v ps) vd ps[j].2) F _ ⟨hP, Fd, hs, hR⟩ (Turn.own n (fun k hk => hk) (Ch.refl _ _)) (hΔ vd)⟩
theorem Hold.pinned {w0 w : World} {F0 : List Nat} {Γ : List Rs} {r : Rs} {vd : Value} {ys : List Int} (H : Hold w0 F0 w Γ) (i : Nat) (hi : Γ[i]? = some (rPin r vd ys)) : ∃ F, u8.R w F vd ys := let ⟨_, _, Fd, _, h⟩ := H.res i hi; ⟨Fd, h⟩
theorem Hold.unpin {w0 w : World} {F0 : List Nat} {Γ Δ : List Rs} {r : Rs} {vd : Value} {ys : List Int} (H : Hold w0 F0 w Γ) (i : Nat) (hi : Γ[i]? = some (rPin r vd ys)) (e : Γ.set i r = Δ) : Hold w0 F0 w Δ := by
  obtain ⟨F, hP, n, s, K⟩ := H.pick i hi
  exact K w r F Δ hP.1 (Turn.own n (fun k hk => hk) (Ch.refl _ _)) e
theorem settle {w : World} {F : List Nat} {g mg : Nat} {dv wv : Value} {xs : List Int} {ps : List Wr} {fc : FuncId} {cap : List Value} {f : Nat → Nat} (h : Hs w [rB g 98 [dv, wv, .map (some mg)], rR u8 5 dv xs, rR kW 100 wv ps, rM mg (yng ps)] F) (nd : F.Nodup) (V : VD xs ps) (hg : Goes Tryz.prog fc) (hf : ∀ i, i < ps.length → f i ≤ 64)
    (hc : ∀ (w1 : World) (i : Nat), Ch F w w1 → i < ps.length → Ret Tryz.prog fc ([Value.int .i64 (i : Int)] ++ cap).toArray w1 (fun r w' => r = .int .i64 (f i : Int) ∧ Ch [] w1 w')) :
    Ret Tryz.prog 37 #[.pointer (some ⟨g, 0, none⟩), .func (.func fc) #[] cap.toArray] w (fun r w' => Hold w F w' [rB g 98 [dv, (.slice none 0 0), .map (some mg)], rR u8 5 dv (stN xs ps f ps.length), rR kW 100 (.slice none 0 0) ([]), rM mg (yng ([]))]) := by
  have hlx := V.len2
  have hnp := V.num
  have h64 := V.h64
  refine enter Tryz.func37 rfl Tryz.ntmps37 (by rfl) (by rfl) ?_
  have H0 : Hold w F w [rB g 98 ([dv, wv, .map (some mg)]), rR u8 5 dv xs, rR kW 100 wv ps, rM mg (yng ps)] := Hold.begin h nd
  have b1 : B w g 98 ([dv, wv, .map (some mg)]) := Hold.blk H0 0 rfl
  obtain ⟨_, R2⟩ : ∃ F, Kd.R kW w F wv ps := Hold.row H0 2 rfl
  refine sq (sq (rg (r (mv rfl) (r (nck rfl) (r (fa Tryz.underlying98 rfl ti31 rfl rfl) (r (ldb Tryz.underlying31 rfl rfl b1 rfl) (r (ln Tryz.underlying31 rfl (R2)) (r (mv rfl) (re (bl ?_))))))))))
  refine lp (α := Nat) (fun i ρ w' => ρ 0 = .pointer (some ⟨g, 0, none⟩) ∧ ρ 1 = .func (.func fc) #[] cap.toArray ∧ ρ 9 = wv ∧ ρ 10 = .int .i64 (ps.length : Int) ∧ ρ 11 = .int .i64 (i : Int) ∧ Hold w F w' [rB g 98 ([dv, wv, .map (some mg)]), rR u8 5 dv (stN xs ps f i), rR kW 100 wv ps, rM mg (yng ps)] ∧ i ≤ ps.length) (fun i => ps.length - i) 0 ?_ ?_
  · exact ⟨rfl, rfl, rfl, rfl, rfl, H0, by omega⟩
  clear H0
  rintro i ρ w501 ⟨y0, y1, y9, y10, y11, H1, hi⟩
  refine sq (rg (r (bi y11 y10 rfl) (re (sq ?_))))
  refine cp rfl (fun hlt => ?_) (fun hlt => ?_)
  · have hi' : i < ps.length := by omega
    have hk := V.ok _ (List.getElem_mem hi')
    have hb := V.at (b := ps[i].1) ⟨hk.1, hk.2.1⟩
    have hSl := stN_len (f := f) V i
    have hfi := hf i hi'
    have hyl := hk.2.2
    obtain ⟨cp3, ap3, vp3, ep3, qpin3, H2⟩ := Hold.pin H1 2 rfl i (by omega) (fun vd => [rB g 98 ([dv, wv, .map (some mg)]), rR u8 5 dv (stN xs ps f i), rPin (rR kW 100 wv ps) vd ps[i].2, rM mg (yng ps)]) (fun _ => rfl)
    clear H1
    refine sk (sq (bl (sq (rg (r (mv y11) (r (ix (j := i) Tryz.underlying31 ti100 (y9.trans ep3) y11 (by omega)) (r (la [.int .i64 (ps[i].1), vp3] Tryz.underlying100 rfl ti100 rfl rfl (fun m u h => (qpin3 m u h))) (ef (xal ti100) ?_))))))))
    rintro _ w4 ⟨g5, e4, rfl, -, b4, c4⟩
    have H3 : Hold w F w4 [rB g 98 ([dv, wv, .map (some mg)]), rR u8 5 dv (stN xs ps f i), rPin (rR kW 100 wv ps) vp3 ps[i].2, rM mg (yng ps), rB g5 100 ([.int .i64 0, .slice none 0 0])] := Hold.newB H2 e4 b4 c4
    clear H2
    clear e4 b4 c4
    have b5 : B w4 g5 100 ([.int .i64 0, .slice none 0 0]) := Hold.blk H3 4 rfl
    obtain ⟨_, T7⟩ := Hold.pinned H3 2 rfl
    refine r (sa rfl) (ef0 (xst (vs := [.int .i64 (ps[i].1), vp3]) ti100 rfl rfl rfl b5 rfl (Nat.le_of_ble_eq_true rfl) (oc rfl (oc (T7).oneCell on))) ?_)
    rintro w6 ⟨-, b6, c6⟩
    have H4 : Hold w F w6 [rB g 98 ([dv, wv, .map (some mg)]), rR u8 5 dv (stN xs ps f i), rPin (rR kW 100 wv ps) vp3 ps[i].2, rM mg (yng ps), rB g5 100 ([.int .i64 (ps[i].1), vp3])] := Hold.setB H3 4 rfl b6 c6 rfl
    clear H3
    clear b6 c6
    refine re ?_
    refine rde mixed ?_
    intro w8 c8
    have H5 : Hold w F w8 [rB g 98 ([dv, wv, .map (some mg)]), rR u8 5 dv (stN xs ps f i), rPin (rR kW 100 wv ps) vp3 ps[i].2, rM mg (yng ps), rB g5 100 ([.int .i64 (ps[i].1), vp3])] := Hold.t H4 c8
    clear H4
    clear c8
    have H9d0 : Hold w8 [] w8 [] := Hold.start w8
    refine ⟨fun w' => Ch [] w8 w', Ch.refl _ _, ?_⟩
    have b10 : B w8 g5 100 ([.int .i64 (ps[i].1), vp3]) := Hold.blk H5 4 rfl
    have b12 : B w8 g 98 ([dv, wv, .map (some mg)]) := Hold.blk H5 0 rfl
    obtain ⟨_, R13⟩ : ∃ F, Kd.R u8 w8 F dv (stN xs ps f i) := Hold.row H5 1 rfl
    refine edt 0 rfl (by kernel_rfl) (fun w' hS => mv y0) (edt 1 rfl (by kernel_rfl) (fun w' hS => fa Tryz.underlying100 rfl ti2 rfl rfl) (edt 2 rfl (by kernel_rfl) (fun w' hS => ldb Tryz.underlying2 rfl rfl (hS.b0 b10) rfl) (edt 4 rfl (by kernel_rfl) (fun w' hS => fa Tryz.underlying100 rfl ti22 rfl rfl) (edt 5 rfl (by kernel_rfl) (fun w' hS => ldb Tryz.underlying22 rfl rfl (hS.b0 b10) rfl) (edt 6 rfl (by kernel_rfl) (fun w' hS => mv y1) (edt 7 rfl (by kernel_rfl) (fun w' hS => mv rfl) (ed1 3 (by kernel_rfl) <| euc rfl go62 (ac rfl (ac rfl an)) (place (b := ps[i].1) ((Hold.ch H9d0).b0 b12) (R13.t (Hold.ch H9d0)) (by omega) ⟨by omega, by omega⟩) ?_)))))))
    rintro r wp ⟨rfl, cp⟩
    have H6d : Hold w8 [] wp [] := Hold.t H9d0 cp
    clear H9d0
    clear cp
    refine ⟨.inr (Hold.ch H6d), ?_⟩
    refine ed1 8 (by kernel_rfl) <| eucv rfl rfl hg (ac rfl an) (hc _ i (Hold.ch (Hold.t H5 (Hold.ch H6d))) hi') ?_
    rintro r wf ⟨rfl, cf⟩
    have H7d : Hold w8 [] wf [] := Hold.t H6d cf
    clear H6d
    clear cf
    refine ⟨.inr (Hold.ch H7d), ?_⟩
    obtain ⟨_, T15⟩ := Hold.pinned H5 2 rfl
    have H8 : Hold w F wf [rB g 98 ([dv, wv, .map (some mg)]), rR u8 5 dv (stN xs ps f i), rPin (rR kW 100 wv ps) vp3 ps[i].2, rM mg (yng ps), rB g5 100 ([.int .i64 (ps[i].1), vp3])] := Hold.news H5 H7d
    clear H7d H5
    obtain ⟨_, T16⟩ := Hold.pinned H8 2 rfl
    obtain ⟨F17, us17, R17⟩ := Kd.R.sl T16 (0) (f i) (by first | omega | (simp; omega)) (by first | omega | (simp; omega))
    have e17 : ((ps[i].2).take (f i)).drop 0 = ps[i].2.take (f i) := by first | (rw [List.take_length, List.drop_drop]; done) | (rw [List.drop_take]; done) | (simp; done) | (rw [List.drop_take]; congr 1; omega) | (rw [List.take_length, List.drop_drop]; congr 1; omega)
    rw [e17] at R17
    obtain ⟨F18, P18, n18, s18, K18⟩ := Hold.pick H8 1 rfl
    replace P18 : Kd.W u8 5 wf F18 dv (stN xs ps f i) := P18
    refine edt 9 rfl (by kernel_rfl) (fun w' hS => slrh (f i) Tryz.underlying22 ti5 (T15.t hS) rfl rfl (by omega)) (ed1 10 (by kernel_rfl) <| euf rfl (cpw (ps[i].1.toNat * 64) (ps[i].1.toNat * 64 + 64) Tryz.underlying22 ti5 rfl rfl P18 ⟨by omega, by omega, by omega⟩ R17) ?_)
    rintro _ w19 ⟨F19, A19⟩
    have eC19 : (ps[i].2.take (f i)).take (ps[i].1.toNat * 64 + 64 - ps[i].1.toNat * 64) = ps[i].2.take (f i) := List.take_of_length_le (by simp; omega)
    rw [eC19] at A19
    have H9 : Hold w F w19 [rB g 98 ([dv, wv, .map (some mg)]), rR u8 5 dv (setl (stN xs ps f i) ps[i] (f i)), rPin (rR kW 100 wv ps) vp3 ps[i].2, rM mg (yng ps), rB g5 100 ([.int .i64 (ps[i].1), vp3])] := Hold.mut (ys := []) K18 A19 rfl
    clear H8
    clear A19 K18 P18 n18 s18
    refine ⟨.inl (by kernel_rfl), ?_⟩
    refine edd (by kernel_rfl) ?_
    refine be ?_
    refine gen (fun ρ => ρ 0 = .pointer (some ⟨g, 0, none⟩) ∧ ρ 1 = .func (.func fc) #[] cap.toArray ∧ ρ 9 = wv ∧ ρ 10 = .int .i64 (ps.length : Int) ∧ ρ 11 = .int .i64 (i : Int) ∧ True) ⟨y0, y1, y9, y10, y11, trivial⟩ ?_
    rintro ρ ⟨z0, z1, z9, z10, z11, -⟩
    refine rg (r (ad (a := (i : Int)) (b := 1) ((i : Int) + 1) z11 rfl (by omega)) (r (mv rfl) (re ?_)))
    have H10 : Hold w F w19 [rB g 98 ([dv, wv, .map (some mg)]), rR u8 5 dv (setl (stN xs ps f i) ps[i] (f i)), rR kW 100 wv ps, rM mg (yng ps), rB g5 100 ([.int .i64 (ps[i].1), vp3])] := Hold.unpin H9 2 rfl rfl
    clear H9
    have H11 : Hold w F w19 [rB g 98 ([dv, wv, .map (some mg)]), rR u8 5 dv (setl (stN xs ps f i) ps[i] (f i)), rR kW 100 wv ps, rM mg (yng ps)] := (show Hold w F w19 ([rB g 98 ([dv, wv, .map (some mg)]), rR u8 5 dv (setl (stN xs ps f i) ps[i] (f i)), rR kW 100 wv ps, rM mg (yng ps)] ++ [rB g5 100 ([.int .i64 (ps[i].1), vp3])]) from Hold.re H10 [0, 1, 2, 3, 4] (by kernel_rfl) (by rfl)).drop
    clear H10
    exact ag (i + 1) ⟨z0, z1, z9, z10, rfl, (by rw [stN_succ hi']; exact H11), by omega⟩ (by first | omega | (dsimp only; omega))
  · obtain rfl : i = ps.length := by omega
    have H2 : Hold w F w501 [rB g 98 ([dv, wv, .map (some mg)]), rR u8 5 dv (stN xs ps f ps.length), rR kW 100 wv ps, rM mg (yng ps), rR kW 100 (.slice none 0 0) ([])] := Hold.nilrow kW 100 H1
    clear H1
    have b3 : B w501 g 98 ([dv, wv, .map (some mg)]) := Hold.blk H2 0 rfl
    obtain ⟨_, R5⟩ : ∃ F, Kd.R kW w501 F (.slice none 0 0) ([]) := Hold.row H2 4 rfl
    refine ex rfl (sq (rg (r (mv y0) (r (nck rfl) (r (fa Tryz.underlying98 rfl ti31 rfl rfl) (ef0 (xst (vs := [.slice none 0 0]) ti31 rfl rfl (cel1 (R5).oneCell) b3 rfl (Nat.le_of_ble_eq_true rfl) (ones1 (R5).oneCell)) ?_))))))
    rintro w4 ⟨-, b4, c4⟩
    have H3 : Hold w F w4 [rB g 98 ([dv, .slice none 0 0, .map (some mg)]), rR u8 5 dv (stN xs ps f ps.length), rR kW 100 wv ps, rM mg (yng ps), rR kW 100 (.slice none 0 0) ([])] := Hold.setB H2 0 rfl b4 c4 rfl
    clear H2
    clear b4 c4
    have b6 : B w4 g 98 ([dv, .slice none 0 0, .map (some mg)]) := Hold.blk H3 0 rfl
    have b7 : MpI w4 mg (yng ps) := Hold.mp H3 3 rfl
    refine re (rg (r (mv y0) (r (nck rfl) (r (fa Tryz.underlying98 rfl ti96 rfl rfl) (r (ldb Tryz.underlying96 rfl rfl b6 rfl) (ef (xcl Tryz.underlying96 rfl b7) ?_))))))
    rintro _ w8 ⟨b8, c8⟩
    have H4 : Hold w F w8 [rB g 98 ([dv, .slice none 0 0, .map (some mg)]), rR u8 5 dv (stN xs ps f ps.length), rR kW 100 wv ps, rM mg (fun _ => none), rR kW 100 (.slice none 0 0) ([])] := Hold.setM H3 3 rfl b8 c8 rfl
    clear H3
    clear b8 c8
    refine re ?_
    have H5 : Hold w F w8 [rB g 98 ([dv, .slice none 0 0, .map (some mg)]), rR u8 5 dv (stN xs ps f ps.length), rR kW 100 (.slice none 0 0) ([]), rM mg (fun _ => none)] := (show Hold w F w8 ([rB g 98 ([dv, .slice none 0 0, .map (some mg)]), rR u8 5 dv (stN xs ps f ps.length), rR kW 100 (.slice none 0 0) ([]), rM mg (fun _ => none)] ++ [rR kW 100 wv ps]) from Hold.re H4 [0, 1, 4, 3, 2] (by kernel_rfl) (by rfl)).drop
    clear H4
    exact fin0 Tryz.results37 (show Hold _ _ _ _ from H5)
end Go.Proofs.YtanfhikfeabidaaGreatDoor

namespace Go.Proofs.YtanfhikfeabidaaGreatDoor
open Go Go.Eng
set_option maxRecDepth 100000
set_option maxHeartbeats 4000000
set_option linter.unusedVariables false
set_option linter.unusedSimpArgs false
def crA (cs : List Int) (i : Nat) : Int := if h : i < cs.length then cs[i] else 0
def crI (cs : List Int) (i : Nat) : Int := if crA cs i < 0 ∨ 64 ≤ crA cs i then 64 else crA cs i
def dbD (xs : List Int) (ps : List Wr) : Dsk := if vdisk xs ps = true then (stN xs ps (fun _ => 64) ps.length, []) else ([], [])
def dcD (xs : List Int) (ps : List Wr) (cs : List Int) : Dsk := if vdisk xs ps = true ∧ cs.length ≤ 400 then (stN xs ps (fun i => (crI cs i).toNat) ps.length, []) else ([], [])
def cutF (cs : List Int) (i : Nat) : Nat := (crA cs i).toNat
theorem barrier_1 {w : World} {i : Int} : Ret Tryz.prog 38 #[.int .i64 i] w (fun r w' => r = .int .i64 64 ∧ Ch [] w w') := by
  refine enter Tryz.func38 rfl Tryz.ntmps38 (by rfl) (by rfl) ?_
  have H0 : Hold w [] w [] := Hold.start w
  refine sq (rg (r (sa rfl) (re (sq (rg (r (sa rfl) (re (rt ?_))))))))
  exact fin1 (v := .int .i64 64) Tryz.results38 rfl ⟨rfl, Hold.ch H0⟩
theorem platter_barrier {w : World} {F : List Nat} {g mg : Nat} {dv wv : Value} {xs : List Int} {ps : List Wr} (h : Hs w [rB g 98 [dv, wv, .map (some mg)], rR u8 5 dv xs, rR kW 100 wv ps, rM mg (yng ps)] F) (nd : F.Nodup) (V : VD xs ps) :
    Ret Tryz.prog 21 #[.pointer (some ⟨g, 0, none⟩)] w (fun r w' => Hold w F w' [rB g 98 [dv, (.slice none 0 0), .map (some mg)], rR u8 5 dv (stN xs ps (fun _ => 64) ps.length), rR kW 100 (.slice none 0 0) ([]), rM mg (yng ([]))]) := by
  refine enter Tryz.func21 rfl Tryz.ntmps21 (by rfl) (by rfl) ?_
  have H0 : Hold w F w [rB g 98 ([dv, wv, .map (some mg)]), rR u8 5 dv xs, rR kW 100 wv ps, rM mg (yng ps)] := Hold.begin h nd
  obtain ⟨F1, hF1, n1, s1, K1⟩ := Hold.front (Γ := [rB g 98 ([dv, wv, .map (some mg)]), rR u8 5 dv xs, rR kW 100 wv ps, rM mg (yng ps)]) (Δ := []) H0
  refine rg (r (mv rfl) (cl go37 (settle (fc := 38) (cap := []) (f := fun _ => 64) hF1 n1 V go38 (fun _ _ => Nat.le_refl _) (fun w1 i c hi => barrier_1)) (ac rfl (ac rfl an)) ?_))
  rintro _ ws Hs1
  have H1 : Hold w F ws [rB g 98 ([dv, (.slice none 0 0), .map (some mg)]), rR u8 5 dv (stN xs ps (fun _ => 64) ps.length), rR kW 100 (.slice none 0 0) ([]), rM mg (yng ([]))] := Hold.call K1 Hs1
  clear H0
  clear K1 hF1 n1 s1
  clear Hs1
  refine re ?_
  exact fin0 Tryz.results21 H1
end Go.Proofs.YtanfhikfeabidaaGreatDoor

namespace Go.Proofs.YtanfhikfeabidaaGreatDoor
open Go Go.Eng
set_option maxRecDepth 100000
set_option maxHeartbeats 4000000
set_option linter.unusedVariables false
set_option linter.unusedSimpArgs false
theorem NewD_H {w w' : World} {r : Value} {D : Dsk} (h : NewD w w' r D) (c : Ch [] w w') : ∃ a b, r = .agg #[a, b] ∧ Hold w [] w' [rR u8 5 a D.1, rR kW 100 b D.2] := by
  obtain ⟨a, b, F, G, rfl, W1, W2, n1, n2, d, f1, f2⟩ := h
  exact ⟨a, b, rfl, F ++ G, ⟨F, G, rfl, W1, G, [], by simp, W2, rfl⟩, Turn.new (nodup_app.2 ⟨n1, n2, d⟩) (fun k hk => (List.mem_append.1 hk).elim (f1 k) (f2 k)) c⟩
theorem impl_NewDisk_H {w : World} {b : Int} : Ret Tryz.prog 17 #[.int .i64 b] w (fun r w' => ∃ x y, r = .agg #[x, y] ∧ Hold w [] w' [rR u8 5 x (zer b), rR kW 100 y ([] : List Wr)]) :=
  Calls.mono impl_NewDisk fun _ _ h => h.imp fun _ h => ⟨h.1, NewD_H h.2.1 h.2.2⟩
theorem impl_Layout_g {w : World} {s b : Int} (hg : geo s b) : Ret Tryz.prog 15 #[.agg #[.int .i64 s, .int .i64 b]] w (fun r w' => r = .agg #[.int .i64 (s * b), .int .i64 (tabs s b), .int .i64 (logs s b), .int .i64 (logs s b + s * b), .int .i64 (s * b - 2 * b)] ∧ Ch [] w w') := by
  have h := @impl_Layout w s b
  rw [lay, if_pos hg] at h; exact h
/-- The blocks of the header that a new disk bears; of the whole disk. -/
def fmA (s b : Int) : Nat := (1 + tabs s b).toNat
def fmN (s b : Int) : Nat := (logs s b + s * b).toNat
def fmX (s b : Int) : List Int := List.replicate (fmA s b * 64) 0 ++ encH 1 s b ++ List.replicate (fmN s b * 64 - (fmA s b * 64 + 64)) 0
def fmtD (s b : Int) : Dsk := if geo s b then (fmX s b, []) else ([], [])
theorem fm_rng {s b : Int} (h : geo s b) : (1 + tabs s b = (fmA s b : Int)) ∧ (logs s b + s * b = (fmN s b : Int)) ∧ 1 ≤ fmA s b ∧ 2 * fmA s b ≤ fmN s b ∧ fmN s b ≤ 1200 := by
  have hm := geo_mul h
  have ht : 0 ≤ tabs s b ∧ tabs s b ≤ 33 := by unfold tabs; omega
  have hl : logs s b = 2 * (1 + tabs s b) := rfl
  unfold fmA fmN
  omega
theorem fm_hdr {s b : Int} (h : geo s b) : hdr 1 s b := by unfold geo at h; unfold hdr; omega
theorem fmX_len {s b : Int} (h : geo s b) : (fmX s b).length = fmN s b * 64 := by
  have := fm_rng h
  simp only [fmX, List.length_append, List.length_replicate, encH_len]; omega
theorem fm_zer {s b : Int} (h : geo s b) : zer (logs s b + s * b) = List.replicate (fmN s b * 64) 0 := by
  have := fm_rng h
  rw [zer, if_pos (by omega)]; congr 1; omega
theorem fm_vd {s b : Int} (h : geo s b) : VD (List.replicate (fmN s b * 64) 0) [((fmA s b : Int), encH 1 s b)] := by
  have := fm_rng h
  have hb : blks (List.replicate (fmN s b * 64) 0) = fmN s b := by unfold blks; simp
  exact ⟨by simp, by rw [hb]; omega, by rw [hb]; omega, by simp, fun x hx => by rw [List.mem_singleton.1 hx, hb]; exact ⟨by simp, by simp only; omega, encH_len _ _ _⟩⟩
theorem fm_st {s b : Int} (h : geo s b) : stN (List.replicate (fmN s b * 64) 0) [((fmA s b : Int), encH 1 s b)] (fun _ => 64) 1 = fmX s b := by
  have := fm_rng h
  have hl := encH_len 1 s b
  show setl (List.replicate (fmN s b * 64) 0) ((fmA s b : Int), encH 1 s b) 64 = _
  simp only [setl, fmX, Int.toNat_natCast]
  rw [List.take_of_length_le (l := encH 1 s b) (by omega), hl, List.take_replicate, List.drop_replicate, Nat.min_eq_left (by omega)]
theorem Places_region {w : World} {a c d e f k : Int} (h : 0 ≤ c ∧ c ≤ 1000 ∧ k = 1) : Ret Tryz.prog 20 #[.agg #[.int .i64 a, .int .i64 c, .int .i64 d, .int .i64 e, .int .i64 f], .int .i64 k] w (fun r w' => r = .int .i64 (1 + c) ∧ Ch [] w w') := by
  obtain ⟨h1, h2, rfl⟩ := h
  refine enter Tryz.func20 rfl Tryz.ntmps20 (by rfl) (by rfl) ?_
  have H0 : Hold w [] w [] := Hold.start w
  refine sq (rg (ef (xbx (t := 51) rfl rfl) ?_))
  rintro _ w1 ⟨g2, e1, rfl, -, b1, c1⟩
  have H1 : Hold w [] w1 [rB g2 51 ([.int .i64 a, .int .i64 c, .int .i64 d, .int .i64 e, .int .i64 f])] := Hold.newB H0 e1 b1 c1
  clear H0
  clear e1 b1 c1
  have b2 : B w1 g2 51 ([.int .i64 a, .int .i64 c, .int .i64 d, .int .i64 e, .int .i64 f]) := Hold.blk H1 0 rfl
  refine r (sa rfl) (re (sq (rg (r (mv rfl) (r (fa Tryz.underlying51 rfl ti2 rfl rfl) (r (ldb Tryz.underlying2 rfl rfl b2 rfl) (r (ad (a := 1) (b := c) (1 + c) rfl rfl (by omega)) (r (ml (a := 1) (b := 1 + c) (1 + c) rfl rfl (by omega)) (r (sa rfl) (re (rt ?_)))))))))))
  exact fin1 (v := .int .i64 (1 + c)) Tryz.results20 rfl ⟨rfl, Hold.ch H1⟩
theorem impl_FormatDisk {w : World} {s b : Int} : Ret Tryz.prog 7 #[.agg #[.int .i64 s, .int .i64 b]] w (fun r w' => ∃ a c, r = .agg #[a, c] ∧ Hold w [] w' [rR u8 5 a (fmtD s b).1, rR kW 100 c (fmtD s b).2]) := by
  refine enter Tryz.func7 rfl Tryz.ntmps7 (by rfl) (by rfl) ?_
  have H0 : Hold w [] w [] := Hold.start w
  refine sq (rg (ef (xbx (t := 25) rfl rfl) ?_))
  rintro _ w1 ⟨g1, e1, rfl, -, b1, c1⟩
  have H1 : Hold w [] w1 [rB g1 25 ([.int .i64 s, .int .i64 b])] := Hold.newB H0 e1 b1 c1
  clear H0
  clear e1 b1 c1
  refine ef (xal ti33) ?_
  rintro _ w2 ⟨g2, e2, rfl, -, b2, c2⟩
  have H2 : Hold w [] w2 [rB g1 25 ([.int .i64 s, .int .i64 b]), rB g2 33 ([.slice none 0 0, .slice none 0 0])] := Hold.newB H1 e2 b2 c2
  clear H1
  clear e2 b2 c2
  have b3 : B w2 g1 25 ([.int .i64 s, .int .i64 b]) := Hold.blk H2 0 rfl
  refine re (sq (sq (rg (r (lab [.int .i64 s, .int .i64 b] Tryz.underlying25 rfl ti25 rfl b3 rfl rfl) (cl go14 (valid (s := s) (b := b)) (ac rfl an) ?_)))))
  rintro r wg ⟨rfl, cg⟩
  have H3 : Hold w [] wg [rB g1 25 ([.int .i64 s, .int .i64 b]), rB g2 33 ([.slice none 0 0, .slice none 0 0])] := Hold.t H2 cg
  clear H2
  clear cg
  refine r (nt rfl) (re ?_)
  refine cpn rfl (fun hg => ?_) (fun hg => ?_)
  · rw [show fmtD s b = ([], []) from if_neg hg]
    have H4 : Hold w [] wg [rB g1 25 ([.int .i64 s, .int .i64 b]), rB g2 33 ([.slice none 0 0, .slice none 0 0]), rR u8 5 (.slice none 0 0) ([])] := Hold.nilrow u8 5 H3
    clear H3
    have H5 : Hold w [] wg [rB g1 25 ([.int .i64 s, .int .i64 b]), rB g2 33 ([.slice none 0 0, .slice none 0 0]), rR u8 5 (.slice none 0 0) ([]), rR kW 100 (.slice none 0 0) ([])] := Hold.nilrow kW 100 H4
    clear H4
    have b5 : B wg g2 33 ([.slice none 0 0, .slice none 0 0]) := Hold.blk H5 1 rfl
    obtain ⟨_, R7⟩ : ∃ F, Kd.R u8 wg F (.slice none 0 0) ([]) := Hold.row H5 2 rfl
    refine sq (rg (r (bd (r := [.slice none 0 0, .slice none 0 0]) ti33 pl33 pn rfl) (ef0 (xst (vs := [.slice none 0 0, .slice none 0 0]) ti33 rfl rfl rfl b5 rfl (Nat.le_of_ble_eq_true rfl) (oc (R7).oneCell (oc (R7).oneCell on))) ?_)))
    rintro w6 ⟨-, b6, c6⟩
    have H6 : Hold w [] w6 [rB g1 25 ([.int .i64 s, .int .i64 b]), rB g2 33 ([.slice none 0 0, .slice none 0 0]), rR u8 5 (.slice none 0 0) ([]), rR kW 100 (.slice none 0 0) ([])] := Hold.setB H5 1 rfl b6 c6 rfl
    clear H5
    clear b6 c6
    refine re (rt ?_)
    have b8 : B w6 g2 33 ([.slice none 0 0, .slice none 0 0]) := Hold.blk H6 1 rfl
    have H7 : Hold w [] w6 [rR u8 5 (.slice none 0 0) ([]), rR kW 100 (.slice none 0 0) ([])] := (show Hold w [] w6 ([rR u8 5 (.slice none 0 0) ([]), rR kW 100 (.slice none 0 0) ([])] ++ [rB g1 25 ([.int .i64 s, .int .i64 b]), rB g2 33 ([.slice none 0 0, .slice none 0 0])]) from Hold.re H6 [2, 3, 0, 1] (by kernel_rfl) (by rfl)).drop
    clear H6
    exact finc  (cs := [.slice none 0 0, .slice none 0 0]) Tryz.results7 Tryz.underlying33 rfl ti33 rfl b8 rfl  ⟨_, _, rfl, H7⟩
  · have hg' : geo s b := by simpa using hg
    replace hg := hg'
    clear hg'
    obtain ⟨r1, r2, r3, r4, r5⟩ := fm_rng hg
    have hL := encH_len 1 s b
    rw [show fmtD s b = (fmX s b, []) from if_pos hg]
    have hz := fm_zer hg
    have V := fm_vd hg
    have eS := fm_st hg
    have hXl := fmX_len hg
    have b5 : B wg g1 25 ([.int .i64 s, .int .i64 b]) := Hold.blk H3 0 rfl
    refine sk (sq (rg (r (lab [.int .i64 s, .int .i64 b] Tryz.underlying25 rfl ti25 rfl b5 rfl rfl) (cl go15 (impl_Layout_g hg) (ac rfl an) ?_))))
    rintro r wl ⟨rfl, cl⟩
    have H4 : Hold w [] wl [rB g1 25 ([.int .i64 s, .int .i64 b]), rB g2 33 ([.slice none 0 0, .slice none 0 0])] := Hold.t H3 cl
    clear H3
    clear cl
    refine ef (xal ti51) ?_
    rintro _ w7 ⟨g3, e7, rfl, -, b7, c7⟩
    have H5 : Hold w [] w7 [rB g1 25 ([.int .i64 s, .int .i64 b]), rB g2 33 ([.slice none 0 0, .slice none 0 0]), rB g3 51 ([.int .i64 0, .int .i64 0, .int .i64 0, .int .i64 0, .int .i64 0])] := Hold.newB H4 e7 b7 c7
    clear H4
    clear e7 b7 c7
    have b8 : B w7 g3 51 ([.int .i64 0, .int .i64 0, .int .i64 0, .int .i64 0, .int .i64 0]) := Hold.blk H5 2 rfl
    refine ef0 (xst (vs := [.int .i64 (s * b), .int .i64 (tabs s b), .int .i64 (logs s b), .int .i64 (logs s b + s * b), .int .i64 (s * b - 2 * b)]) ti51 rfl rfl rfl b8 rfl (Nat.le_of_ble_eq_true rfl) (one_all rfl)) ?_
    rintro w9 ⟨-, b9, c9⟩
    have H6 : Hold w [] w9 [rB g1 25 ([.int .i64 s, .int .i64 b]), rB g2 33 ([.slice none 0 0, .slice none 0 0]), rB g3 51 ([.int .i64 (s * b), .int .i64 (tabs s b), .int .i64 (logs s b), .int .i64 (logs s b + s * b), .int .i64 (s * b - 2 * b)])] := Hold.setB H5 2 rfl b9 c9 rfl
    clear H5
    clear b9 c9
    have b10 : B w9 g3 51 ([.int .i64 (s * b), .int .i64 (tabs s b), .int .i64 (logs s b), .int .i64 (logs s b + s * b), .int .i64 (s * b - 2 * b)]) := Hold.blk H6 2 rfl
    refine re (sq (rg (r (fa Tryz.underlying51 rfl ti2 rfl rfl) (r (ldb Tryz.underlying2 rfl rfl b10 rfl) (cl go17 (impl_NewDisk_H) (ac rfl an) ?_)))))
    rintro r wn ⟨x, y, rfl, Hn1⟩
    rw [hz] at Hn1
    have H7 : Hold w [] wn [rB g1 25 ([.int .i64 s, .int .i64 b]), rB g2 33 ([.slice none 0 0, .slice none 0 0]), rB g3 51 ([.int .i64 (s * b), .int .i64 (tabs s b), .int .i64 (logs s b), .int .i64 (logs s b + s * b), .int .i64 (s * b - 2 * b)]), rR u8 5 x (List.replicate (fmN s b * 64) 0), rR kW 100 y ([] : List Wr)] := Hold.news H6 Hn1
    clear H6
    clear Hn1
    obtain ⟨_, R13⟩ : ∃ F, Kd.R u8 wn F x (List.replicate (fmN s b * 64) 0) := Hold.row H7 3 rfl
    obtain ⟨_, R14⟩ : ∃ F, Kd.R kW wn F y ([] : List Wr) := Hold.row H7 4 rfl
    refine cl go16 (spin R13 R14 (by simp; omega) (by simp) (by simp)) (ac rfl an) ?_
    rintro r ws ⟨g, dv, wv, mg, rfl, Hs1⟩
    have H8 : Hold w [] ws [rB g1 25 ([.int .i64 s, .int .i64 b]), rB g2 33 ([.slice none 0 0, .slice none 0 0]), rB g3 51 ([.int .i64 (s * b), .int .i64 (tabs s b), .int .i64 (logs s b), .int .i64 (logs s b + s * b), .int .i64 (s * b - 2 * b)]), rR u8 5 x (List.replicate (fmN s b * 64) 0), rR kW 100 y ([] : List Wr), rB g 98 ([dv, wv, .map (some mg)]), rR u8 5 dv (List.replicate (fmN s b * 64) 0), rR kW 100 wv ([] : List Wr), rM mg (yng ([] : List Wr))] := Hold.news H7 Hs1
    clear H7
    clear Hs1
    refine r (sa rfl) (re (sq ?_))
    refine gen (fun ρ => ρ 1 = .pointer (some ⟨g1, 0, none⟩) ∧ ρ 2 = .pointer (some ⟨g2, 0, none⟩) ∧ ρ 3 = .pointer (some ⟨g3, 0, none⟩) ∧ ρ 4 = .pointer (some ⟨g, 0, none⟩) ∧ True) ⟨rfl, rfl, rfl, rfl, trivial⟩ ?_
    rintro ρ ⟨z1, z2, z3, z4, -⟩
    have b15 : B ws g1 25 ([.int .i64 s, .int .i64 b]) := Hold.blk H8 0 rfl
    refine rg (r (fa Tryz.underlying25 rfl ti2 rfl z1) (r (ldb Tryz.underlying2 rfl rfl b15 rfl) (r (fa Tryz.underlying25 rfl ti2 rfl z1) (r (ldb Tryz.underlying2 rfl rfl b15 rfl) (r (bd (r := [.int .i64 1, .int .i64 s, .int .i64 b]) ti73 pl73 (pc rfl (cel1 rfl) (pc rfl (cel1 rfl) (pc rfl (cel1 rfl) pn))) rfl) (cl go18 (Header_block (fm_hdr hg)) (ac rfl an) ?_))))))
    rintro r wh ⟨rfl, ch⟩
    have H9 : Hold w [] wh [rB g1 25 ([.int .i64 s, .int .i64 b]), rB g2 33 ([.slice none 0 0, .slice none 0 0]), rB g3 51 ([.int .i64 (s * b), .int .i64 (tabs s b), .int .i64 (logs s b), .int .i64 (logs s b + s * b), .int .i64 (s * b - 2 * b)]), rR u8 5 x (List.replicate (fmN s b * 64) 0), rR kW 100 y ([] : List Wr), rB g 98 ([dv, wv, .map (some mg)]), rR u8 5 dv (List.replicate (fmN s b * 64) 0), rR kW 100 wv ([] : List Wr), rM mg (yng ([] : List Wr))] := Hold.t H8 ch
    clear H8
    clear ch
    refine ef (xal ti71) ?_
    rintro _ w17 ⟨g5, e17, rfl, -, b17, c17⟩
    have H10 : Hold w [] w17 [rB g1 25 ([.int .i64 s, .int .i64 b]), rB g2 33 ([.slice none 0 0, .slice none 0 0]), rB g3 51 ([.int .i64 (s * b), .int .i64 (tabs s b), .int .i64 (logs s b), .int .i64 (logs s b + s * b), .int .i64 (s * b - 2 * b)]), rR u8 5 x (List.replicate (fmN s b * 64) 0), rR kW 100 y ([] : List Wr), rB g 98 ([dv, wv, .map (some mg)]), rR u8 5 dv (List.replicate (fmN s b * 64) 0), rR kW 100 wv ([] : List Wr), rM mg (yng ([] : List Wr)), rB g5 71 (byts (List.replicate 64 0))] := Hold.newB H9 e17 b17 c17
    clear H9
    clear e17 b17 c17
    have b18 : B w17 g5 71 (byts (List.replicate 64 0)) := Hold.blk H10 9 rfl
    refine ef0 (xsta ti71 rfl rfl hL b18 (by simp)) ?_
    rintro w19 ⟨-, b19, c19⟩
    have H11 : Hold w [] w19 [rB g1 25 ([.int .i64 s, .int .i64 b]), rB g2 33 ([.slice none 0 0, .slice none 0 0]), rB g3 51 ([.int .i64 (s * b), .int .i64 (tabs s b), .int .i64 (logs s b), .int .i64 (logs s b + s * b), .int .i64 (s * b - 2 * b)]), rR u8 5 x (List.replicate (fmN s b * 64) 0), rR kW 100 y ([] : List Wr), rB g 98 ([dv, wv, .map (some mg)]), rR u8 5 dv (List.replicate (fmN s b * 64) 0), rR kW 100 wv ([] : List Wr), rM mg (yng ([] : List Wr)), rB g5 71 (byts (encH 1 s b))] := Hold.setB H10 9 rfl b19 c19 rfl
    clear H10
    clear b19 c19
    refine re (sq ?_)
    refine rde mixed ?_
    intro w20 c20
    have H12 : Hold w [] w20 [rB g1 25 ([.int .i64 s, .int .i64 b]), rB g2 33 ([.slice none 0 0, .slice none 0 0]), rB g3 51 ([.int .i64 (s * b), .int .i64 (tabs s b), .int .i64 (logs s b), .int .i64 (logs s b + s * b), .int .i64 (s * b - 2 * b)]), rR u8 5 x (List.replicate (fmN s b * 64) 0), rR kW 100 y ([] : List Wr), rB g 98 ([dv, wv, .map (some mg)]), rR u8 5 dv (List.replicate (fmN s b * 64) 0), rR kW 100 wv ([] : List Wr), rM mg (yng ([] : List Wr)), rB g5 71 (byts (encH 1 s b))] := Hold.t H11 c20
    clear H11
    clear c20
    have H21d0 : Hold w20 [] w20 [] := Hold.start w20
    refine ⟨fun w' => Ch [] w20 w', Ch.refl _ _, ?_⟩
    have b22 : B w20 g3 51 ([.int .i64 (s * b), .int .i64 (tabs s b), .int .i64 (logs s b), .int .i64 (logs s b + s * b), .int .i64 (s * b - 2 * b)]) := Hold.blk H12 2 rfl
    refine edt 0 rfl (by kernel_rfl) (fun w' hS => mv z4) (edt 1 rfl (by kernel_rfl) (fun w' hS => lab [.int .i64 (s * b), .int .i64 (tabs s b), .int .i64 (logs s b), .int .i64 (logs s b + s * b), .int .i64 (s * b - 2 * b)] Tryz.underlying51 rfl ti51 z3 (hS.b0 b22) rfl rfl) (edt 3 rfl (by kernel_rfl) (fun w' hS => sla Tryz.underlying71 ti5 rfl) (ed1 2 (by kernel_rfl) <| euc rfl go20 (ac rfl (ac rfl an)) (Places_region (by omega)) ?_)))
    rintro r wr ⟨er, cr⟩
    rw [r1] at er
    subst er
    have H13d : Hold w20 [] wr [] := Hold.t H21d0 cr
    clear H21d0
    clear cr
    refine ⟨.inr (Hold.ch H13d), ?_⟩
    have H14 : Hold w [] wr [rB g1 25 ([.int .i64 s, .int .i64 b]), rB g2 33 ([.slice none 0 0, .slice none 0 0]), rB g3 51 ([.int .i64 (s * b), .int .i64 (tabs s b), .int .i64 (logs s b), .int .i64 (logs s b + s * b), .int .i64 (s * b - 2 * b)]), rR u8 5 x (List.replicate (fmN s b * 64) 0), rR kW 100 y ([] : List Wr), rB g 98 ([dv, wv, .map (some mg)]), rR u8 5 dv (List.replicate (fmN s b * 64) 0), rR kW 100 wv ([] : List Wr), rM mg (yng ([] : List Wr)), rB g5 71 (byts (encH 1 s b))] := Hold.news H12 H13d
    clear H13d H12
    have H15 : Hold w [] wr [rB g 98 ([dv, wv, .map (some mg)]), rR u8 5 dv (List.replicate (fmN s b * 64) 0), rR kW 100 wv ([] : List Wr), rM mg (yng ([] : List Wr)), rB g1 25 ([.int .i64 s, .int .i64 b]), rB g2 33 ([.slice none 0 0, .slice none 0 0]), rB g3 51 ([.int .i64 (s * b), .int .i64 (tabs s b), .int .i64 (logs s b), .int .i64 (logs s b + s * b), .int .i64 (s * b - 2 * b)]), rR u8 5 x (List.replicate (fmN s b * 64) 0), rR kW 100 y ([] : List Wr), rB g5 71 (byts (encH 1 s b))] := Hold.re H14 [5, 6, 7, 8, 0, 1, 2, 3, 4, 9] (by kernel_rfl) (by rfl)
    clear H14
    obtain ⟨F24, hF24, n24, K24, X24, s24⟩ := Hold.frontx (Γ := [rB g 98 ([dv, wv, .map (some mg)]), rR u8 5 dv (List.replicate (fmN s b * 64) 0), rR kW 100 wv ([] : List Wr), rM mg (yng ([] : List Wr))]) (Δ := [rB g1 25 ([.int .i64 s, .int .i64 b]), rB g2 33 ([.slice none 0 0, .slice none 0 0]), rB g3 51 ([.int .i64 (s * b), .int .i64 (tabs s b), .int .i64 (logs s b), .int .i64 (logs s b + s * b), .int .i64 (s * b - 2 * b)]), rR u8 5 x (List.replicate (fmN s b * 64) 0), rR kW 100 y ([] : List Wr), rB g5 71 (byts (encH 1 s b))]) H15
    have b25 : B wr g5 71 (byts (encH 1 s b)) := Hold.blk H15 9 rfl
    obtain ⟨_, ⟨rfl, bq⟩, xq⟩ := X24 5 (rB g5 71 (byts (encH 1 s b))) rfl
    refine ed1 4 (by kernel_rfl) <| euc rfl go19 (ac rfl (ac rfl (ac rfl an))) (platter_write (b := (fmA s b : Int)) hF24 n24 (Kd.W.R (row_of_arr (xs := encH 1 s b) b25 hL (Nat.le_of_ble_eq_true rfl))) xq (by omega) (by simp)) ?_
    rintro _ ww ⟨wv', Hw⟩
    have H16 : Hold w [] ww [rB g 98 ([dv, wv', .map (some mg)]), rR u8 5 dv (List.replicate (fmN s b * 64) 0), rR kW 100 wv' ([((fmA s b : Int), encH 1 s b)]), rM mg (yng ([((fmA s b : Int), encH 1 s b)])), rB g1 25 ([.int .i64 s, .int .i64 b]), rB g2 33 ([.slice none 0 0, .slice none 0 0]), rB g3 51 ([.int .i64 (s * b), .int .i64 (tabs s b), .int .i64 (logs s b), .int .i64 (logs s b + s * b), .int .i64 (s * b - 2 * b)]), rR u8 5 x (List.replicate (fmN s b * 64) 0), rR kW 100 y ([] : List Wr), rB g5 71 (byts (encH 1 s b))] := Hold.call K24 Hw
    clear H15
    clear K24 hF24 n24 s24
    clear Hw
    refine ⟨.inl (by kernel_rfl), ?_⟩
    refine edd (by kernel_rfl) ?_
    refine sq ?_
    refine gen (fun ρ => ρ 2 = .pointer (some ⟨g2, 0, none⟩) ∧ ρ 4 = .pointer (some ⟨g, 0, none⟩) ∧ True) ⟨z2, z4, trivial⟩ ?_
    rintro ρ ⟨z2, z4, -⟩
    refine rg (r (mv z4) ?_)
    obtain ⟨F26, hF26, n26, s26, K26⟩ := Hold.front (Γ := [rB g 98 ([dv, wv', .map (some mg)]), rR u8 5 dv (List.replicate (fmN s b * 64) 0), rR kW 100 wv' ([((fmA s b : Int), encH 1 s b)]), rM mg (yng [((fmA s b : Int), encH 1 s b)])]) (Δ := [rB g1 25 ([.int .i64 s, .int .i64 b]), rB g2 33 ([.slice none 0 0, .slice none 0 0]), rB g3 51 ([.int .i64 (s * b), .int .i64 (tabs s b), .int .i64 (logs s b), .int .i64 (logs s b + s * b), .int .i64 (s * b - 2 * b)]), rR u8 5 x (List.replicate (fmN s b * 64) 0), rR kW 100 y ([] : List Wr), rB g5 71 (byts (encH 1 s b))]) H16
    refine cl go21 ((by have h9 := platter_barrier hF26 n26 (show VD _ _ from V); rw [show ([((fmA s b : Int), encH 1 s b)] : List Wr).length = 1 from rfl, eS] at h9; exact h9)) (ac rfl an) ?_
    rintro _ wb Hb
    have H17 : Hold w [] wb [rB g 98 ([dv, .slice none 0 0, .map (some mg)]), rR u8 5 dv (fmX s b), rR kW 100 (.slice none 0 0) ([] : List Wr), rM mg (yng ([] : List Wr)), rB g1 25 ([.int .i64 s, .int .i64 b]), rB g2 33 ([.slice none 0 0, .slice none 0 0]), rB g3 51 ([.int .i64 (s * b), .int .i64 (tabs s b), .int .i64 (logs s b), .int .i64 (logs s b + s * b), .int .i64 (s * b - 2 * b)]), rR u8 5 x (List.replicate (fmN s b * 64) 0), rR kW 100 y ([] : List Wr), rB g5 71 (byts (encH 1 s b))] := Hold.call K26 Hb
    clear H16
    clear K26 hF26 n26 s26
    clear Hb
    have b28 : B wb g 98 ([dv, .slice none 0 0, .map (some mg)]) := Hold.blk H17 0 rfl
    obtain ⟨_, R29⟩ : ∃ F, Kd.R u8 wb F dv (fmX s b) := Hold.row H17 1 rfl
    obtain ⟨_, R30⟩ : ∃ F, Kd.R kW wb F (.slice none 0 0) ([] : List Wr) := Hold.row H17 2 rfl
    refine re (sq (rg (r (mv z4) (cl go13 (platter_disk b28 R29 R30 (by rw [hXl]; omega) (by simp) (by simp)) (ac rfl an) ?_))))
    rintro r wd ⟨a, c, rfl, Hd⟩
    have H18 : Hold w [] wd [rB g 98 ([dv, .slice none 0 0, .map (some mg)]), rR u8 5 dv (fmX s b), rR kW 100 (.slice none 0 0) ([] : List Wr), rM mg (yng ([] : List Wr)), rB g1 25 ([.int .i64 s, .int .i64 b]), rB g2 33 ([.slice none 0 0, .slice none 0 0]), rB g3 51 ([.int .i64 (s * b), .int .i64 (tabs s b), .int .i64 (logs s b), .int .i64 (logs s b + s * b), .int .i64 (s * b - 2 * b)]), rR u8 5 x (List.replicate (fmN s b * 64) 0), rR kW 100 y ([] : List Wr), rB g5 71 (byts (encH 1 s b)), rR u8 5 a (fmX s b), rR kW 100 c ([] : List Wr)] := Hold.news H17 Hd
    clear H17
    clear Hd
    have b31 : B wd g2 33 ([.slice none 0 0, .slice none 0 0]) := Hold.blk H18 5 rfl
    obtain ⟨_, R33⟩ : ∃ F, Kd.R kW wd F c ([] : List Wr) := Hold.row H18 11 rfl
    obtain ⟨_, R34⟩ : ∃ F, Kd.R u8 wd F a (fmX s b) := Hold.row H18 10 rfl
    refine ef0 (xst (vs := [a, c]) ti33 z2 rfl rfl b31 rfl (Nat.le_of_ble_eq_true rfl) (oc (R34).oneCell (oc (R33).oneCell on))) ?_
    rintro w32 ⟨-, b32, c32⟩
    have H19 : Hold w [] w32 [rB g 98 ([dv, .slice none 0 0, .map (some mg)]), rR u8 5 dv (fmX s b), rR kW 100 (.slice none 0 0) ([] : List Wr), rM mg (yng ([] : List Wr)), rB g1 25 ([.int .i64 s, .int .i64 b]), rB g2 33 ([a, c]), rB g3 51 ([.int .i64 (s * b), .int .i64 (tabs s b), .int .i64 (logs s b), .int .i64 (logs s b + s * b), .int .i64 (s * b - 2 * b)]), rR u8 5 x (List.replicate (fmN s b * 64) 0), rR kW 100 y ([] : List Wr), rB g5 71 (byts (encH 1 s b)), rR u8 5 a (fmX s b), rR kW 100 c ([] : List Wr)] := Hold.setB H18 5 rfl b32 c32 rfl
    clear H18
    clear b32 c32
    refine re (rt ?_)
    have b35 : B w32 g2 33 ([a, c]) := Hold.blk H19 5 rfl
    have H20 : Hold w [] w32 [rR u8 5 a (fmX s b), rR kW 100 c ([] : List Wr)] := (show Hold w [] w32 ([rR u8 5 a (fmX s b), rR kW 100 c ([] : List Wr)] ++ [rB g 98 ([dv, .slice none 0 0, .map (some mg)]), rR u8 5 dv (fmX s b), rR kW 100 (.slice none 0 0) ([] : List Wr), rM mg (yng ([] : List Wr)), rB g1 25 ([.int .i64 s, .int .i64 b]), rB g2 33 ([a, c]), rB g3 51 ([.int .i64 (s * b), .int .i64 (tabs s b), .int .i64 (logs s b), .int .i64 (logs s b + s * b), .int .i64 (s * b - 2 * b)]), rR u8 5 x (List.replicate (fmN s b * 64) 0), rR kW 100 y ([] : List Wr), rB g5 71 (byts (encH 1 s b))]) from Hold.re H19 [10, 11, 0, 1, 2, 3, 4, 5, 6, 7, 8, 9] (by kernel_rfl) (by rfl)).drop
    clear H19
    exact finc  (cs := [a, c]) Tryz.results7 Tryz.underlying33 rfl ti33 z2 b35 rfl  ⟨_, _, rfl, H20⟩
attribute [local irreducible] fmtD
end Go.Proofs.YtanfhikfeabidaaGreatDoor

namespace Go.EngI
open Go.Eng Go.RowKit
set_option linter.unusedVariables false
set_option linter.unusedSimpArgs false
/-- Every function, every depth; the round. -/
def Wd (ro : Option Nat) : Fence := { fn := fun _ => True, depth := none, alive := false, round := ro }
section
variable (P : Program) (ro : Option Nat) (m : Nat)
def den (Qf : Exit → Act → World → Prop) : List It → Exit → Act → World → Prop
  | [] => Qf
  | .c y :: k => Exit.then (y.wpIn (Wd ro) m P (den Qf k)) (den Qf k)
  | .b id :: k => Exit.inBlock id (den Qf k)
  | .l J :: k => Exit.then J (den Qf k)
def S (n : Nat) (k : List It) (Qf : Exit → Act → World → Prop) (ρ : Fr) (ds : List Deferred) (w : World) : Prop :=
  okk n k = true → ∀ a, Sim n ρ ds a → den P ro m Qf k .normal a w
def L (n : Nat) (ops : Array Oper) (rest : List Oper) (k : List It) (Qf : Exit → Act → World → Prop) (ρ : Fr) (ds : List Deferred) (w : World) : Prop :=
  okl n rest = true → okk n k = true → ∀ a, Sim n ρ ds a → wpListIn (Wd ro) m P ops (den P ro m Qf k) rest a w
end
section
variable {P : Program} {ro : Option Nat} {m n : Nat} {k : List It} {Qf : Exit → Act → World → Prop} {ρ : Fr} {ds : List Deferred} {w : World}
theorem sq {x y : Code} (h : S P ro m n (.c x :: .c y :: k) Qf ρ ds w) : S P ro m n (.c (.seq x y) :: k) Qf ρ ds w := by
  intro hk a ha
  simp only [okk, okc, Bool.and_eq_true] at hk
  exact wpIn_seq (h (by simp [okk, hk]) a ha)
theorem sk (h : S P ro m n k Qf ρ ds w) : S P ro m n (.c .skip :: k) Qf ρ ds w := fun hk a ha => wpIn_skip (h (by simpa [okk, okc] using hk) a ha)
theorem bl {id : Nat} {c : Code} (h : S P ro m n (.c c :: .b id :: k) Qf ρ ds w) : S P ro m n (.c (.block id c) :: k) Qf ρ ds w :=
  fun hk a ha => wpIn_block (h (by simpa [okk, okc] using hk) a ha)
theorem be {id : Nat} (h : S P ro m n k Qf ρ ds w) : S P ro m n (.b id :: k) Qf ρ ds w := fun hk a ha => h (by simpa [okk] using hk) a ha
theorem den_exit {id : Nat} {k k' : List It} (h : dropTo id k = some k') (a : Act) (w : World) (hd : den P ro m Qf k' .normal a w) : den P ro m Qf k (.exit id) a w := by
  induction k with
  | nil => cases h
  | cons x k ih =>
    cases x with
    | c y => exact ih h
    | l J => exact ih h
    | b i =>
      simp only [dropTo] at h
      simp only [den, Exit.inBlock]
      split at h
      · rename_i e; injection h with h; subst h; rw [if_pos e]; exact hd
      · rename_i e; rw [if_neg e]; exact ih h
theorem ex {id : Nat} {k' : List It} (hd : dropTo id k = some k') (h : S P ro m n k' Qf ρ ds w) : S P ro m n (.c (.exit id) :: k) Qf ρ ds w :=
  fun hk a ha => wpIn_exit (den_exit hd a w (h (okk_dropTo hd (by simpa [okk, okc] using hk)) a ha))
theorem den_ret (k : List It) (a : Act) (w : World) (h : Qf .ret a w) : den P ro m Qf k .ret a w := by
  induction k with
  | nil => exact h
  | cons x k ih => cases x <;> exact ih
theorem cd {c : Operand} {x y : Code} {t : Bool} (hc : ev ρ c = .bool t) (ht : t = true → S P ro m n (.c x :: k) Qf ρ ds w) (hf : t = false → S P ro m n (.c y :: k) Qf ρ ds w) :
    S P ro m n (.c (.cond c x y) :: k) Qf ρ ds w := by
  intro hk a ha
  simp only [okk, okc, Bool.and_eq_true] at hk
  refine wpIn_cond_split (t := t) (by rw [ha.eval]; exact hc) (fun e => ht e (by simp [okk, hk]) a ha) (fun e => hf e (by simp [okk, hk]) a ha)
theorem ct {c : Operand} {x y : Code} (hc : ev ρ c = .bool true) (h : S P ro m n (.c x :: k) Qf ρ ds w) : S P ro m n (.c (.cond c x y) :: k) Qf ρ ds w := cd hc (fun _ => h) (fun e => by cases e)
theorem cf {c : Operand} {x y : Code} (hc : ev ρ c = .bool false) (h : S P ro m n (.c y :: k) Qf ρ ds w) : S P ro m n (.c (.cond c x y) :: k) Qf ρ ds w := cd hc (fun e => by cases e) (fun _ => h)
theorem cp {c : Operand} {x y : Code} {p : Prop} [Decidable p] (hc : ev ρ c = .bool (decide p)) (ht : p → S P ro m n (.c x :: k) Qf ρ ds w) (hf : ¬ p → S P ro m n (.c y :: k) Qf ρ ds w) :
    S P ro m n (.c (.cond c x y) :: k) Qf ρ ds w := cd hc (fun e => ht (of_decide_eq_true e)) (fun e => hf (of_decide_eq_false e))
theorem gen (I : Fr → Prop) (h0 : I ρ) (h : ∀ ρ', I ρ' → S P ro m n k Qf ρ' ds w) : S P ro m n k Qf ρ ds w := h ρ h0
theorem rg {id : Nat} {l : List Oper} (h : L P ro m n l.toArray l k Qf ρ ds w) : S P ro m n (.c (.region id l.toArray false) :: k) Qf ρ ds w := by
  intro hk a ha
  simp only [okk, okc, Bool.and_eq_true] at hk
  exact wpIn_region_lit (h (by simpa using hk.1) hk.2 a ha)
theorem re {ops : Array Oper} (h : S P ro m n k Qf ρ ds w) : L P ro m n ops [] k Qf ρ ds w := fun _ hk a ha => wpListIn_nil (h hk a ha)
theorem lp {α : Type} {c : Code} (I : α → Fr → World → Prop) (μ : α → Nat) (x0 : α) (h0 : I x0 ρ w)
    (body : ∀ x ρ' w', I x ρ' w' → S P ro m n (.c c :: .l (Again n ds I μ (μ x)) :: k) Qf ρ' ds w') : S P ro m n (.c (.loop c) :: k) Qf ρ ds w := by
  intro hk a ha
  simp only [okk, okc, Bool.and_eq_true] at hk
  let st : Act → World → Nat → Prop := fun a w m => ∃ x ρ, Sim n ρ ds a ∧ I x ρ w ∧ μ x = m
  let mu : Act → World → Nat := fun a w => open Classical in if h : ∃ m, st a w m then (least h).choose else 0
  refine wpIn_loop (fun a w => ∃ x ρ, Sim n ρ ds a ∧ I x ρ w) mu ⟨x0, ρ, ha, h0⟩ ?_
  rintro a w ⟨x, ρ', hs, hI⟩
  have hex : ∃ m, st a w m := ⟨_, x, ρ', hs, hI, rfl⟩
  have hmu : mu a w = (least hex).choose := dif_pos hex
  obtain ⟨⟨x1, ρ1, hs1, hI1, hm1⟩, hle⟩ := (least hex).choose_spec
  have hb := body x1 ρ1 w hI1 (by simp [okk, hk]) a hs1
  refine wpIn_mono hb (fun e a' w' he => ?_)
  cases e with
  | normal =>
    obtain ⟨y, ρ2, hs2, hI2, hlt⟩ := he
    refine ⟨⟨y, ρ2, hs2, hI2⟩, ?_⟩
    have hex' : ∃ m, st a' w' m := ⟨_, y, ρ2, hs2, hI2, rfl⟩
    have hmu' : mu a' w' = (least hex').choose := dif_pos hex'
    rw [hmu, hmu', ← hm1]
    exact Nat.lt_of_le_of_lt ((least hex').choose_spec.2 _ ⟨y, ρ2, hs2, hI2, rfl⟩) hlt
  | exit id => exact he
  | goto l => exact he
  | ret => exact he
  | panic ch => exact he
  | outgrown => exact he
theorem ag {α : Type} {I : α → Fr → World → Prop} {μ : α → Nat} {j : Nat} (y : α) (hI : I y ρ w) (hm : μ y < j) : S P ro m n (.l (Again n ds I μ j) :: k) Qf ρ ds w :=
  fun _ a ha => ⟨y, ρ, ha, hI, hm⟩
variable {ops : Array Oper} {rest : List Oper}
theorem semAt_run {o : Oper} {ρ : Operand → Value} {v : Next} {w' : World} (ho : ∀ c, o.op ≠ .defer c) (h : (execOp ρ o).run P w = .ok v w') : (o.semAt (Wd ro).round ρ).run P w = .ok v w' := by
  rw [Oper.semAt_eq _ _ _ ho]; exact h
theorem opv {o : Oper} {v : Value} {w' : World} (ho : ∀ c, o.op ≠ .defer c) (hg : o.guard = none) (hrun : (execOp (ev ρ) o).run P w = .ok (.value v) w') (h : L P ro m n ops rest k Qf (updo ρ o.dst v) ds w') : L P ro m n ops (o :: rest) k Qf ρ ds w := by
  intro hl hk a ha
  simp only [okl, Bool.and_eq_true] at hl
  refine wpListIn_plain hg fun K hK => ?_
  unfold Oper.wpIn
  refine ⟨fun _ _ => trivial, ?_⟩
  rw [ha.eval, semAt_run ho hrun]
  exact hK _ _ (h hl.2 hk _ (ha.put o.dst hl.1 v))
theorem ops_ {o : Oper} {w' : World} (ho : ∀ c, o.op ≠ .defer c) (hg : o.guard = none) (hrun : (execOp (ev ρ) o).run P w = .ok .skip w') (h : L P ro m n ops rest k Qf (updo ρ o.dst undef) ds w') : L P ro m n ops (o :: rest) k Qf ρ ds w := by
  intro hl hk a ha
  simp only [okl, Bool.and_eq_true] at hl
  refine wpListIn_plain hg fun K hK => ?_
  unfold Oper.wpIn
  refine ⟨fun _ _ => trivial, ?_⟩
  rw [ha.eval, semAt_run ho hrun]
  exact hK _ _ (h hl.2 hk _ (ha.put o.dst hl.1 undef))
theorem nodefer {o : Oper} {x : Next} {w' : World} {ρ : Operand → Value} (hx : ∀ d, x ≠ .defer d) (h : (execOp ρ o).run P w = .ok x w') : ∀ c, o.op ≠ .defer c := by
  intro c e
  simp only [execOp, e] at h
  change Sem.run P (do let d ← resolve ρ c o.type; pure (Next.defer d)) w = _ at h
  rw [Sem.run_bind] at h
  generalize (resolve ρ c o.type).run P w = R at h
  cases R with
  | ok d w1 => simp [Result.andThen] at h; exact hx _ h.1.symm
  | halt y w1 => simp [Result.andThen] at h
theorem r {o : Oper} {v : Value} (hr : Rn P ρ o w v) (h : L P ro m n ops rest k Qf (updo ρ o.dst v) ds w) : L P ro m n ops (o :: rest) k Qf ρ ds w :=
  opv (nodefer (fun _ e => by cases e) (hr.2 w (Ch.refl _ _))) hr.1 (hr.2 w (Ch.refl _ _)) h
theorem ef {o : Oper} {Φ : Value → World → Prop} (h : Ex P ρ o w Φ) (hk : ∀ v w', Φ v w' → L P ro m n ops rest k Qf (updo ρ o.dst v) ds w') : L P ro m n ops (o :: rest) k Qf ρ ds w := by
  obtain ⟨hg, v, w', hr, hΦ⟩ := h
  exact opv (nodefer (fun _ e => by cases e) hr) hg hr (hk v w' hΦ)
theorem ef0 {o : Oper} {Φ : World → Prop} (h : Ex0 P ρ o w Φ) (hk : ∀ w', Φ w' → L P ro m n ops rest k Qf (updo ρ o.dst undef) ds w') : L P ro m n ops (o :: rest) k Qf ρ ds w := by
  obtain ⟨hg, w', hr, hΦ⟩ := h
  exact ops_ (nodefer (fun _ e => by cases e) hr) hg hr (hk w' hΦ)
theorem gy {d : Option Nat} {op : Op} {ty : TypeId} {pos : String} {af : Array Edge} {j t : Nat} {b : Bool} (hj : (ops[j]?).bind (·.dst) = some t) (ht : ρ t = .bool b) (hn : Nat.blt t n = true)
    (h : L P ro m n ops (⟨d, op, ty, pos, af, none⟩ :: rest) k Qf ρ ds w) : L P ro m n ops (⟨d, op, ty, pos, af, some (j, b)⟩ :: rest) k Qf ρ ds w := by
  intro hl hk a ha
  have hlt : t < a.tmps.size := by rw [ha.size]; simpa [Nat.blt_eq] using hn
  have hy : yielded ops a.tmps j = some b := by
    have h1 := ha.slot t
    rw [ht, Array.getD_eq_getD_getElem?, Array.getElem?_eq_getElem hlt] at h1
    simp only [Option.getD_some] at h1
    simp [yielded, hj, Array.getElem?_eq_getElem hlt, h1]
  have := h hl hk a ha
  simp only [wpListIn, Region.wanted, hy, beq_self_eq_true, if_true] at this ⊢
  exact this
theorem gn {d : Option Nat} {op : Op} {ty : TypeId} {pos : String} {af : Array Edge} {j t : Nat} {b : Bool} (hj : (ops[j]?).bind (·.dst) = some t) (ht : ρ t = .bool (!b)) (hn : Nat.blt t n = true)
    (h : L P ro m n ops rest k Qf (updo ρ d undef) ds w) : L P ro m n ops (⟨d, op, ty, pos, af, some (j, b)⟩ :: rest) k Qf ρ ds w := by
  intro hl hk a ha
  simp only [okl, Bool.and_eq_true] at hl
  have hlt : t < a.tmps.size := by rw [ha.size]; simpa [Nat.blt_eq] using hn
  have hy : yielded ops a.tmps j = some (!b) := by
    have h1 := ha.slot t
    rw [ht, Array.getD_eq_getD_getElem?, Array.getElem?_eq_getElem hlt] at h1
    simp only [Option.getD_some] at h1
    simp [yielded, hj, Array.getElem?_eq_getElem hlt, h1]
  have hne : ¬ Region.wanted ⟨d, op, ty, pos, af, some (j, b)⟩ (yielded ops a.tmps) = true := by cases b <;> simp [Region.wanted, hy]
  unfold wpListIn
  rw [if_neg hne]
  exact ⟨fun _ _ => trivial, h hl.2 hk _ (ha.put d hl.1 undef)⟩
theorem sp (t : Nat) {p : Prop} [Decidable p] (ht : ρ t = .bool (decide p)) (hT : p → L P ro m n ops rest k Qf (upd ρ t (.bool true)) ds w) (hF : ¬ p → L P ro m n ops rest k Qf (upd ρ t (.bool false)) ds w) : L P ro m n ops rest k Qf ρ ds w := by
  by_cases h : p
  · have := hT h; rwa [upd_self ρ t _ (by rw [ht, decide_eq_true h])] at this
  · have := hF h; rwa [upd_self ρ t _ (by rw [ht, decide_eq_false h])] at this
/-- A guarded call of yield that is made. -/
theorem yld {d : Option Nat} {ty : TypeId} {pos : String} {af : Array Edge} {x : Operand} {l : Nat} {xs : Array Operand} {vs : List Value} {ts : Array TypeId} {Ψ : Ending → World → Prop} (hx : ev ρ x = .func (.yield l) #[] #[]) (hxs : xs.toList.map (ev ρ) = vs) (hY : YieldAt (Wd ro) (m - 1) P l vs.toArray w Ψ)
    (h : ∀ e w', Ψ e w' → ∃ v, e = .returned v ∧ L P ro m n ops rest k Qf (updo ρ d v) ds w') : L P ro m n ops (⟨d, .call ⟨.value x, xs, ts⟩, ty, pos, af, none⟩ :: rest) k Qf ρ ds w := by
  intro hl hk a ha
  simp only [okl, Bool.and_eq_true] at hl
  obtain ⟨fn, tmps, assign, body, hy, hR⟩ := hY
  have hrun : (execOp (ev ρ) ⟨d, .call ⟨.value x, xs, ts⟩, ty, pos, af, none⟩).run P w = .ok (.round l fn tmps assign body) w := by
    have := arr hxs
    simp [execOp, resolve, Deferred.ofValue, invoke, hx, this, hy]
  refine wpListIn_plain rfl fun K hK => ?_
  unfold Oper.wpIn
  refine ⟨fun _ _ => trivial, ?_⟩
  rw [ha.eval, semAt_run (fun c e => by cases e) hrun, Oper.uponIn_round]
  refine ⟨fun h => (by cases h), hR.mono fun e w' hΨ => ?_⟩
  obtain ⟨v, rfl, hL⟩ := h e w' hΨ
  exact hK _ _ (hL hl.2 hk _ (ha.put d hl.1 v))
theorem enterI {f : FuncId} {fn : Func} {c : Code} {args : Array Value} {R : Ending → World → Prop} (hf : P.funcs[f]? = some fn) (hb : fn.body = some c) (hn : fn.ntmps = n)
    (hok : okc n c = true) (hs : Nat.ble args.size n = true) (h : S P none m n [.c c] (bodyPost P fn R) (ini args) [] w) : CallsIn (Wd none) m P f args w R := by
  refine callsIn_of_wp hf hb trivial ?_
  have hs' : args.size ≤ n := Nat.le_of_ble_eq_true hs
  refine h (by simp [okk, hok]) _ ⟨by simp [hn]; omega, rfl, fun t => ?_⟩
  simp only [ini, Array.getD_eq_getD_getElem?, Array.getElem?_append]
  split
  · rfl
  · rename_i hlt
    rw [Array.getElem?_eq_none (Nat.le_of_not_lt hlt)]
    simp only [Array.getElem?_replicate]
    split <;> rfl
theorem rt {fn : Func} {R : Ending → World → Prop} (h : S P ro m n [] (bodyPost P fn R) ρ ds w) : S P ro m n (.c .ret :: k) (bodyPost P fn R) ρ ds w :=
  fun hk a ha => wpIn_ret (den_ret k a w (h rfl a ha))
theorem fin0 {fn : Func} {R : Ending → World → Prop} (hr : fn.results = #[]) (h : R (.returned (.tuple #[])) w) : S P ro m n [] (bodyPost P fn R) ρ [] w :=
  fun _ a ha => ⟨ha.defers, _, results_none hr _ _ _, h⟩
/-- What a round keeps: these blocks. -/
def Kept (Pr : List Nat) (A B : World) : Prop := A.heap.size ≤ B.heap.size ∧ ∀ k, k ∈ Pr → B.heap[k]? = A.heap[k]?
theorem Kept.trans {Pr : List Nat} {A B C : World} (h : Kept Pr A B) (h' : Kept Pr B C) : Kept Pr A C := ⟨Nat.le_trans h.1 h'.1, fun k hk => (h'.2 k hk).trans (h.2 k hk)⟩
theorem Kept.ch {Pr : List Nat} {A B : World} (c : Ch [] A B) (h : ∀ k, k ∈ Pr → k < A.heap.size) : Kept Pr A B := ⟨c.size, fun k hk => c.blk k (h k hk) (by simp)⟩
theorem abides_ch {β : Type} {b : Nat} {J : β → World → Prop} (hJ : AbidesFrom b J) {s : β} {A B : World} (h : J s A) (c : Ch [] A B) : J s B :=
  hJ s A B none h ⟨c.os, c.tape, c.output, c.size, fun k hk hn => c.blk k hk (by simp)⟩ (fun r e => by cases e)
theorem ret_in {f : FuncId} {args : Array Value} {w : World} {R : Ending → World → Prop} (h : Calls P f args w R) : CallsIn (Wd ro) m P f args w R := by
  have h' : CallsIn (Wd none) m P f args w R := callsIn_wide.2 h
  cases ro with
  | none => exact h'
  | some l => exact CallsIn.inRound l h'
theorem endq (h : ∀ a, Qf .normal a w) : S P ro m n [] Qf ρ ds w := fun _ a _ => h a
theorem retq (h : ∀ a, Qf .ret a w) : S P ro m n (.c .ret :: k) Qf ρ ds w := fun _ a _ => wpIn_ret (den_ret k a w (h a))
abbrev collD (D : Nat) : Deferred := { target := .collected D, args := #[] }
theorem rf {α : Type} {g : Operand} {p q id : Nat} {ty : TypeId} {pos : String} {body : Code} {gf : Nat} {lb : Array Value} {enc : α → Value} {Kp : World → World → Prop} {S' Sp : List α → Prop} {N : Nat}
    (hm : 1 ≤ m) (hg : ev ρ g = .func (.func gf) #[] lb) (eg : ∀ args w, (callFunc gf args).run P w = .ok (.enter gf args) w)
    (hseq : SeqStopsK (Wd none) (m - 1) P gf lb (fun x => #[enc x]) Kp S' Sp N w)
    (hKt : ∀ {A B C : World}, Kp A B → Kp B C → Kp A C) (hKb : ∀ (W : World) (l : Nat) (o o' : Obj), w.heap.size ≤ l → W.heap[l]? = some o → o.isCells = false → o.isWalk = false → Kp W (W.putObj l o'))
    (I : List α → World → Prop) (Ix : Code → List α → World → Prop) (hI : OwnFrom w.heap.size I) (hIx : ∀ c, OwnFrom w.heap.size (Ix c)) (h0 : I [] w)
    (hp : Nat.blt p n = true) (hq : Nat.blt q n = true) (hpq : p ≠ q) (hok : okc n body = true)
    (hbody : ∀ (l : Nat) (pre : List α) (x : α) (W : World), I pre W → pre.length < N → S P (some l) (m - 1 - 1) n [.c body] (ownPostK Kp I Ix (pre ++ [x]) W) (upd (upd ρ p (enc x)) q (enc x)) [] W)
    (hdone : ∀ (D : Nat) (xs : List α) (W : World), w.heap.size ≤ D → S' xs → I xs W → W.heap[D]? = some (.deferred (some [])) → S P none m n k Qf ρ [collD D] W)
    (hstop : ∀ (D : Nat) (c : Code) (pre : List α) (W : World), w.heap.size ≤ D → Sp pre → Ix c pre W → W.heap[D]? = some (.deferred (some [])) → okc n c = true ∧ S P none m n (.c c :: k) Qf ρ [collD D] W) :
    S P none m n (.c (.rangeFunc g #[p] (.region id #[⟨some q, .assign (.tmp p), ty, pos, #[], none⟩] false) body) :: k) Qf ρ [] w := by
  intro hk a ha
  have hp' : p < a.tmps.size := by rw [ha.size]; simpa [Nat.blt_eq] using hp
  have hq' : q < a.tmps.size := by rw [ha.size]; simpa [Nat.blt_eq] using hq
  have hk' : okk n k = true := by simpa [okk, okc] using hk
  have hsim : ∀ v, Sim n (upd (upd ρ p v) q v) [] { tmps := (a.tmps.setIfInBounds p v).setIfInBounds q v, defers := [] } := by
    intro v
    have h1 : Sim n (updo ρ (some p) v) [] (a.put (some p) v) := ha.put (some p) (by simpa [okd] using hp) v
    have h2 := h1.put (some q) (by simpa [okd] using hq) v
    exact ⟨h2.size, rfl, h2.slot⟩
  refine wpIn_rangeFunc_ownF (F := Wd none) rfl hm (gf := gf) (lb := lb) (by rw [ha.eval]; exact hg) trivial eg hseq hKt hKb (Below.refl _ _) (fun _ => rfl) I Ix hI hIx h0
    (fun x => { tmps := (a.tmps.setIfInBounds p (enc x)).setIfInBounds q (enc x), defers := [] }) ?_ ?_ ?_ ?_
  · intro l x W K hK
    refine wpIn_region_lit (l := [_]) ?_
    refine wpListIn_plain rfl fun K' hK' => ?_
    unfold Oper.wpIn
    refine ⟨fun _ _ => trivial, ?_⟩
    rw [Oper.semAt_eq _ _ _ (fun c e => by cases e)]
    simp [execOp, Act.eval, Oper.uponIn, Act.put, hp']
    exact hK' _ _ (wpListIn_nil hK)
  · intro l pre x W hi hl
    exact hbody l pre x W hi hl (by simp [okk, hok]) _ (hsim (enc x))
  · intro D xs W hD hS hi hH
    exact hdone D xs W hD hS hi hH hk' _ ⟨ha.size, by simp [ha.defers], ha.slot⟩
  · intro D c pre W hD hS hi hH
    obtain ⟨h1, h2⟩ := hstop D c pre W hD hS hi hH
    exact h2 (by simp [okk, h1, hk']) _ ⟨ha.size, by simp [ha.defers], ha.slot⟩
theorem run_cell {fn : Func} {p : Nat} {t T : TypeId} {D : TypeDesc} {g : Nat} {cs : List Value} {v : Value} (hr : fn.results = #[.cell p t]) (ht : P.underlying t = some D) (hD : aggD D = false) (hB : B w g T cs) (hc : cs[0]? = some v) {tmps : Array Value} (e : tmps.getD p undef = .pointer (some ⟨g, 0, none⟩)) : (results fn tmps).run P w = .ok v w := by
  simp only [Array.getD_eq_getD_getElem?] at e
  have hc' : w.cell? ⟨g, 0, none⟩ = some v := (hB.cell 0).trans hc
  have hl : (loadVar t ⟨g, 0, none⟩).run P w = .ok v w := by
    cases D <;> simp [aggD] at hD <;> simp [loadVar, isAgg, run_underlying ht, hc']
  simp [results, hr, e, asAddr, hl]
/-- The end of a function with a range over a function: ahead of it; behind it. -/
theorem finM0 {fn : Func} {R : Ending → World → Prop} {p : Nat} {t T : TypeId} {D : TypeDesc} {g : Nat} {cs : List Value} {v : Value} (hr : fn.results = #[.cell p t]) (ht : P.underlying t = some D) (hD : aggD D = false) (hp : ρ p = .pointer (some ⟨g, 0, none⟩)) (hB : B w g T cs) (hc : cs[0]? = some v) (h : R (.returned v) w) : S P none m n [] (bodyPostM (Wd none) m P fn R) ρ [] w :=
  fun _ a ha => by
    show LeavesInM (Wd none) m P fn a.tmps R a.defers .returning w
    rw [ha.defers]
    exact ⟨v, run_cell hr ht hD hB hc ((ha.slot p).trans hp), h⟩
theorem putObj_B {w : World} {g T l : Nat} {cs : List Value} {o o' : Obj} (hB : B w g T cs) (hl : w.heap[l]? = some o) (ho : o.isCells = false) : B (w.putObj l o') g T cs := by
  have hne : g ≠ l := fun e => by
    subst e
    have := hB
    rw [B, hl] at this
    injection this with this
    subst this
    cases ho
  exact (World.putObj_heap_other hne).trans hB
theorem finM {fn : Func} {R : Ending → World → Prop} {p l : Nat} {t T : TypeId} {D : TypeDesc} {g : Nat} {cs : List Value} {v : Value} (hr : fn.results = #[.cell p t]) (ht : P.underlying t = some D) (hD : aggD D = false) (hp : ρ p = .pointer (some ⟨g, 0, none⟩)) (hB : B w g T cs) (hc : cs[0]? = some v) (hH : w.heap[l]? = some (.deferred (some []))) (h : R (.returned v) (w.putObj l (.deferred none))) : S P none m n [] (bodyPostM (Wd none) m P fn R) ρ [collD l] w :=
  fun _ a ha => by
    show LeavesInM (Wd none) m P fn a.tmps R a.defers .returning w
    rw [ha.defers]
    exact ⟨by simp, .inl ⟨l, _, rfl, run_takeDeferred hH, v, run_cell hr ht hD (putObj_B hB hH rfl) hc ((ha.slot p).trans hp), h⟩⟩
theorem rtM {fn : Func} {R : Ending → World → Prop} (h : S P none m n [] (bodyPostM (Wd none) m P fn R) ρ ds w) : S P none m n (.c .ret :: k) (bodyPostM (Wd none) m P fn R) ρ ds w :=
  fun hk a ha => wpIn_ret (den_ret k a w (h rfl a ha))
theorem enterM {f : FuncId} {fn : Func} {c : Code} {args : Array Value} {R : Ending → World → Prop} (hf : P.funcs[f]? = some fn) (hb : fn.body = some c) (hn : fn.ntmps = n)
    (hok : okc n c = true) (hs : Nat.ble args.size n = true) (h : S P none m n [.c c] (bodyPostM (Wd none) m P fn R) (ini args) [] w) : Calls P f args w R := by
  refine (callsIn_wide (n := m)).1 (callsIn_of_wp_marks (F := Wd none) hf hb trivial ?_)
  have hs' : args.size ≤ n := Nat.le_of_ble_eq_true hs
  refine h (by simp [okk, hok]) _ ⟨by simp [hn]; omega, rfl, fun t => ?_⟩
  simp only [ini, Array.getD_eq_getD_getElem?, Array.getElem?_append]
  split
  · rfl
  · rename_i hlt
    rw [Array.getElem?_eq_none (Nat.le_of_not_lt hlt)]
    simp only [Array.getElem?_replicate]
    split <;> rfl
theorem cl {d : Option Nat} {ty : TypeId} {pos : String} {af : Array Edge} {f : FuncId} {xs : Array Operand} {vs : List Value} {ts : Array TypeId} {Φ : Value → World → Prop} (hg : Goes P f) (hc : Ret P f vs.toArray w Φ) (hx : xs.toList.map (ev ρ) = vs) (h : ∀ v w', Φ v w' → L P ro m n ops rest k Qf (updo ρ d v) ds w') :
    L P ro m n ops (⟨d, .call ⟨.value (.func f), xs, ts⟩, ty, pos, af, none⟩ :: rest) k Qf ρ ds w := by
  intro hl hk a ha
  simp only [okl, Bool.and_eq_true] at hl
  have hrun : (execOp (ev ρ) ⟨d, .call ⟨.value (.func f), xs, ts⟩, ty, pos, af, none⟩).run P w = .ok (.enter f vs.toArray) w := by
    rw [← arr hx]
    simp [execOp, resolve, Deferred.ofValue, invoke, ev, hg _ w]
  refine wpListIn_plain rfl fun K hK => ?_
  unfold Oper.wpIn
  refine ⟨fun _ _ => trivial, ?_⟩
  rw [ha.eval, semAt_run (fun c e => by cases e) hrun, Oper.uponIn_enter]
  refine ⟨fun h => (by cases h), ret_in (Calls.mono hc fun e w2 ⟨v, he, hv⟩ => ?_)⟩
  subst he
  exact hK _ _ (h v w2 hv hl.2 hk _ (ha.put d hl.1 v))
/-- Resources all of whose blocks are cells. -/
def Cel (r : Rs) : Prop := ∀ w F, r.P w F → ∀ k, k ∈ F → ∃ o, w.heap[k]? = some o ∧ o.isCells = true
theorem cel_B {g T : Nat} {cs : List Value} : Cel (rB g T cs) := fun w F ⟨e, hB⟩ k hk => by rw [e] at hk; rw [List.mem_singleton.1 hk]; exact ⟨_, hB, rfl⟩
theorem cel_R {kd : IntKind} {e : TypeId} {v : Value} {xs : List Int} : Cel (rR (Kd.int kd) e v xs) := fun w F h k hk => by
  obtain ⟨Fs, cs, ho, rfl, he⟩ := (show (Kd.int kd).W e w F v xs from h)
  have hFs : Fs = [] := by
    clear ho hk h
    induction xs generalizing Fs cs with
    | nil => exact he.1
    | cons x xs ih =>
      obtain ⟨F1, F2, c1, c2, rfl, rfl, h1, h2⟩ := he
      rw [show F1 = [] from h1.2, ih F2 c2 h2]; rfl
  subst hFs
  rcases ho.2 with ⟨rfl, _⟩ | ⟨g, cap, cur, rfl, _, hh, _⟩
  · simp [Value.ownBlock] at hk
  · simp [Value.ownBlock] at hk
    rw [hk]; exact ⟨_, hh, rfl⟩
theorem cel_Hs {w : World} {Γ : List Rs} (hc : ∀ r, r ∈ Γ → Cel r) : ∀ {F : List Nat}, Hs w Γ F → ∀ k, k ∈ F → ∃ o, w.heap[k]? = some o ∧ o.isCells = true := by
  induction Γ with
  | nil => rintro F rfl k hk; cases hk
  | cons r Γ ih =>
    rintro F ⟨F1, F2, rfl, h1, h2⟩ k hk
    rcases List.mem_append.1 hk with hk | hk
    · exact hc r (by simp) w F1 h1 k hk
    · exact ih (fun r hr => hc r (by simp [hr])) h2 k hk
/-- What is held abides what turns of blocks that are no cells. -/
theorem hold_own {w0 A B : World} {Γ : List Rs} {row : Option Nat} {b : Nat} (hc : ∀ r, r ∈ Γ → Cel r) (H : Hold w0 [] A Γ) (hg : A.grownBy B row) (hb : w0.heap.size ≤ b) (hr : ∀ r, row = some r → b ≤ r ∧ ∃ o : Obj, A.heap[r]? = some o ∧ o.isCells = false) : Hold w0 [] B Γ := by
  obtain ⟨F, h, n, s, c⟩ := H
  refine ⟨F, h.mv fun k hk => hg.block k (h.lt k hk) (fun e => ?_), n, s, ⟨hg.os.trans c.os, hg.tape.trans c.tape, hg.output.trans c.output, Nat.le_trans c.size hg.size, fun k hk hn => ?_⟩⟩
  · obtain ⟨o, h1, h2⟩ := cel_Hs hc h k hk
    obtain ⟨_, o', h3, h4⟩ := hr k e.symm
    rw [h1] at h3; injection h3 with h3; subst h3; rw [h2] at h4; cases h4
  · rw [hg.block k (Nat.lt_of_lt_of_le hk c.size) (fun e => by have := (hr k e.symm).1; omega)]; exact c.blk k hk hn
theorem keeps_of_ch {F : List Nat} {A B : World} (c : Ch F A B) (h : ∀ k, k ∈ F → ∃ o, A.heap[k]? = some o ∧ o.isCells = true) : KeepsOthers A B :=
  ⟨c.size, fun k o hk ho => by
    have hlt := (Array.getElem?_eq_some_iff.1 hk).1
    rw [c.blk k hlt (fun hF => by obtain ⟨o', h1, h2⟩ := h k hF; rw [hk] at h1; injection h1 with h1; subst h1; rw [h2] at ho; cases ho)]
    exact hk⟩
end
end Go.EngI

namespace Go.Proofs.YtanfhikfeabidaaGreatDoor
open Go
open Go.Eng hiding S L den sq sk bl be ex cd ct cf cp cpn gen rg re lp ag opv ops_ r ef ef0 gy gn spf sp rt fin0 den_exit den_ret
open Go.EngI
set_option maxRecDepth 100000
set_option maxHeartbeats 4000000
set_option linter.unusedVariables false
set_option linter.unusedSimpArgs false
/-- The free lids among the first k. -/
def freeN (t : List (Int × Bool)) : Nat → List Int
  | 0 => []
  | k + 1 => freeN t k ++ (match t[k]? with
    | some x => if x.1 = 0 then [(k : Int) + 1] else []
    | none => [])
theorem freeN_yes {t : List (Int × Bool)} {k : Nat} (h : k < t.length) (h0 : t[k].1 = 0) : freeN t (k + 1) = freeN t k ++ [(k : Int) + 1] := by simp [freeN, List.getElem?_eq_getElem h, h0]
theorem freeN_no {t : List (Int × Bool)} {k : Nat} (h : k < t.length) (h0 : ¬ t[k].1 = 0) : freeN t (k + 1) = freeN t k := by simp [freeN, List.getElem?_eq_getElem h, h0]
theorem freeN_len (t : List (Int × Bool)) (k : Nat) : (freeN t k).length ≤ k := by
  induction k with
  | zero => simp [freeN]
  | succ k ih =>
    simp only [freeN, List.length_append]
    split
    · split <;> simp <;> omega
    · simp; omega
def isPart (t : List (Int × Bool)) (pre : List Int) : Prop := ∃ i, ∃ h : i < t.length, t[i].1 = 0 ∧ pre = freeN t i ++ [(i : Int) + 1]
theorem freeLids_seq {w0 : World} {G : List Nat} {g mm : Nat} {tv : Value} {t : List (Int × Bool)} (hB : B w0 g 58 [tv]) (hR : kE.R w0 G tv t) (lt : t.length ≤ 1000000000) :
    SeqStopsK (Wd none) mm Tryz.prog 167 #[.pointer (some ⟨g, 0, none⟩)] (fun x : Int => #[.int .i64 x]) (Kept (g :: G)) (fun xs => xs = freeN t t.length) (isPart t) 1000000001 w0 := by
  intro l J Jx W hW hJ hJx hY h0
  have hlt : ∀ k, k ∈ g :: G → k < w0.heap.size := fun k hk => (List.mem_cons.1 hk).elim (fun e => e ▸ hB.lt) (fun h => hR.lt k h)
  have hK0 : Kept (g :: G) w0 W := ⟨hW.size, fun k hk => hW.block k (hlt k hk)⟩
  have hltK : ∀ w1, Kept (g :: G) w0 w1 → ∀ k, k ∈ g :: G → k < w1.heap.size := fun w1 h k hk => Nat.lt_of_lt_of_le (hlt k hk) h.1
  have hBK : ∀ w1, Kept (g :: G) w0 w1 → B w1 g 58 [tv] := fun w1 h => (h.2 g (by simp)).trans hB
  have hRK : ∀ w1, Kept (g :: G) w0 w1 → kE.R w1 G tv t := fun w1 h => hR.mv (fun k hk => h.2 k (by simp [hk])) h.1
  refine enterI Tryz.func167 rfl Tryz.ntmps167 (by rfl) (by rfl) ?_
  have H0 : Hold W [] W [] := Hold.start W
  have hB0 := hBK W hK0
  have hR0 := hRK W hK0
  refine sq (rg (r (ldb Tryz.underlying58 rfl rfl ((Hold.ch H0).b0 hB0) rfl) (r (ln Tryz.underlying58 rfl ((hR0.t (Hold.ch H0)))) (r (mv rfl) (re (bl ?_))))))
  refine lp (α := Nat) (fun i ρ w' => ρ 0 = .func (.yield l) #[] #[] ∧ ρ 5 = tv ∧ ρ 6 = .int .i64 (t.length : Int) ∧ ρ 7 = .int .i64 (i : Int) ∧ i ≤ t.length ∧ J (freeN t i) w' ∧ Kept (g :: G) W w') (fun i => t.length - i) 0 ?_ ?_
  · exact ⟨rfl, rfl, rfl, rfl, by omega, abides_ch hJ h0 (Hold.ch H0), Kept.ch (Hold.ch H0) (hltK W hK0)⟩
  clear H0
  rintro i ρ w1 ⟨y0, y5, y6, y7, hi, hJ1, hK1⟩
  have hK01 := hK0.trans hK1
  have hR1 := hRK w1 hK01
  have H1 : Hold w1 [] w1 [] := Hold.start w1
  refine sq (rg (r (bi y7 y6 rfl) (re (sq ?_))))
  refine cp rfl (fun h => ?_) (fun h => ?_)
  · have hi' : i < t.length := by omega
    refine sk (sq (bl (sq (rg (r (mv y7) ?_)))))
    obtain ⟨c10_1, ad10_1, k10_1, e10_1, p10_1⟩ := Kd.R.place hR1 i (by omega)
    have q10_1 := en_at p10_1
    refine r (ix (j := i) Tryz.underlying58 ti115 (y5.trans e10_1) y7 (by omega)) (r (la [.int .i64 ((t[i]).1), .bool ((t[i]).2)] Tryz.underlying115 rfl ti115 rfl rfl (fun m u h => (Ch.cell (Hold.ch H1) (q10_1 m u h)))) (ef (xal ti115) ?_))
    rintro _ w2 ⟨g4, e2, rfl, -, b2, c2⟩
    have H101 : Hold w1 [] w2 [rB g4 115 ([.int .i64 0, .bool false])] := Hold.newB H1 e2 b2 c2
    clear H1
    clear e2 b2 c2
    have b3 : B w2 g4 115 ([.int .i64 0, .bool false]) := Hold.blk H101 0 rfl
    refine r (sa rfl) (ef0 (xst (vs := [.int .i64 ((t[i]).1), .bool ((t[i]).2)]) ti115 rfl rfl rfl b3 rfl (Nat.le_of_ble_eq_true rfl) (one_all rfl)) ?_)
    rintro w4 ⟨-, b4, c4⟩
    have H102 : Hold w1 [] w4 [rB g4 115 ([.int .i64 ((t[i]).1), .bool ((t[i]).2)])] := Hold.setB H101 0 rfl b4 c4 rfl
    clear H101
    clear b4 c4
    have b5 : B w4 g4 115 ([.int .i64 ((t[i]).1), .bool ((t[i]).2)]) := Hold.blk H102 0 rfl
    refine re (sq (rg (r (fa Tryz.underlying115 rfl ti2 rfl rfl) (r (ldb Tryz.underlying2 rfl rfl b5 rfl) (r (bi rfl rfl rfl) (r (mv rfl) ?_))))))
    refine sp 15 rfl (fun h0 => ?_) (fun h0 => ?_)
    · refine gy rfl rfl rfl (r (mv y0) (gy rfl rfl rfl (r (mv rfl) (gy rfl rfl rfl (r (ad (a := (i : Int)) (b := 1) ((i : Int) + 1) rfl rfl (by omega)) (gy rfl rfl rfl (yld rfl (ac rfl an) (hY (freeN t i) ((i : Int) + 1) _ (abides_ch hJ hJ1 (Hold.ch H102)) (by have := freeN_len t i; omega)) ?_)))))))
      rintro e w2 (⟨rfl, hJ3, hK3⟩ | ⟨rfl, hJx3⟩)
      · refine ⟨_, rfl, ?_⟩
        have H9t : Hold w2 [] w2 [] := Hold.start w2
        refine gy rfl rfl rfl (r (nt rfl) (r (pk rfl rfl) (re (cf rfl (sk (be ?_))))))
        refine gen (fun ρ => ρ 0 = .func (.yield l) #[] #[] ∧ ρ 5 = tv ∧ ρ 6 = .int .i64 (t.length : Int) ∧ ρ 7 = .int .i64 (i : Int) ∧ True) ⟨y0, y5, y6, y7, trivial⟩ ?_
        rintro ρ ⟨z0, z5, z6, z7, -⟩
        refine rg (r (ad (a := (i : Int)) (b := 1) ((i : Int) + 1) z7 rfl (by omega)) (r (mv rfl) (re ?_)))
        exact ag (i + 1) ⟨z0, z5, z6, rfl, by omega, (by rw [freeN_yes hi' h0]; exact hJ3), (hK1.trans (Kept.ch (Hold.ch H102) (hltK w1 hK01))).trans hK3⟩ (by omega)
      · refine ⟨_, rfl, ?_⟩
        have H9f : Hold w2 [] w2 [] := Hold.start w2
        refine gy rfl rfl rfl (r (nt rfl) (r (pk rfl rfl) (re (ct rfl (rt ?_)))))
        exact fin0 Tryz.results167 ⟨⟨_, rfl⟩, .inr ⟨_, ⟨i, hi', h0, rfl⟩, hJx3⟩⟩
    · refine gn rfl rfl rfl (gn rfl rfl rfl (gn rfl rfl rfl (gn rfl rfl rfl (gn rfl rfl rfl (r (pk rfl rfl) (re (cf rfl (sk (be ?_)))))))))
      refine gen (fun ρ => ρ 0 = .func (.yield l) #[] #[] ∧ ρ 5 = tv ∧ ρ 6 = .int .i64 (t.length : Int) ∧ ρ 7 = .int .i64 (i : Int) ∧ True) ⟨y0, y5, y6, y7, trivial⟩ ?_
      rintro ρ ⟨z0, z5, z6, z7, -⟩
      refine rg (r (ad (a := (i : Int)) (b := 1) ((i : Int) + 1) z7 rfl (by omega)) (r (mv rfl) (re ?_)))
      exact ag (i + 1) ⟨z0, z5, z6, rfl, by omega, (by rw [freeN_no hi' h0]; exact abides_ch hJ hJ1 (Hold.ch H102)), hK1.trans (Kept.ch (Hold.ch H102) (hltK w1 hK01))⟩ (by omega)
  · obtain rfl : i = t.length := by omega
    refine ex rfl ?_
    exact fin0 Tryz.results167 ⟨⟨_, rfl⟩, .inl ⟨_, rfl, abides_ch hJ hJ1 (Hold.ch H1)⟩⟩
end Go.Proofs.YtanfhikfeabidaaGreatDoor

namespace Go.Proofs.YtanfhikfeabidaaGreatDoor
open Go Go.Eng
set_option maxRecDepth 100000
set_option maxHeartbeats 4000000
set_option linter.unusedVariables false
theorem freeLids_mk {w : World} {F : List Nat} {v : Value} {t : List (Int × Bool)} (hx : kE.R w F v t) : Ret Tryz.prog 149 #[v] w (fun r w' => ∃ g, r = .func (.func 167) #[] #[.pointer (some ⟨g, 0, none⟩)] ∧ Hold w [] w' [rB g 58 [v]]) := by
  refine enter Tryz.func149 rfl Tryz.ntmps149 (by rfl) (by rfl) ?_
  have H0 : Hold w [] w [] := Hold.start w
  refine sq (rg (ef (xbx (t := 58) rfl (cel1 ((hx.t (Hold.ch H0))).oneCell)) ?_))
  rintro _ w1 ⟨g1, e1, rfl, -, b1, c1⟩
  have H1 : Hold w [] w1 [rB g1 58 ([v])] := Hold.newB H0 e1 b1 c1
  clear H0
  clear e1 b1 c1
  refine r (sa rfl) (re (sq (rg (r (mf (vs := []) (cs := [.pointer (some ⟨g1, 0, none⟩)]) an (ac rfl an)) (r (sa rfl) (re (rt ?_)))))))
  exact fin1 (v := .func (.func 167) #[] [.pointer (some ⟨g1, 0, none⟩)].toArray) Tryz.results149 rfl ⟨_, rfl, H1⟩
end Go.Proofs.YtanfhikfeabidaaGreatDoor

namespace Go.Proofs.YtanfhikfeabidaaGreatDoor
open Go Go.RowKit
open Go.Eng hiding S L den sq sk bl be ex cd ct cf cp cpn gen rg re lp ag opv ops_ r ef ef0 gy gn spf sp rt fin0 den_exit den_ret cl
open Go.EngI
set_option maxRecDepth 100000
set_option maxHeartbeats 4000000
set_option linter.unusedVariables false
set_option linter.unusedSimpArgs false
theorem freeN_pre {t : List (Int × Bool)} {i : Nat} : ∀ j, i ≤ j → (freeN t j).take (freeN t i).length = freeN t i ∧ (freeN t i).length ≤ (freeN t j).length := by
  intro j
  induction j with
  | zero => intro h; obtain rfl : i = 0 := by omega
            simp
  | succ j ih =>
    intro h
    by_cases e : i = j + 1
    · subst e; simp
    · obtain ⟨h1, h2⟩ := ih (by omega)
      simp only [freeN]
      exact ⟨by rw [List.take_append_of_le_length h2]; exact h1, by simp; omega⟩
def flD (t : List (Int × Bool)) (n : Int) : List Int := if n ≤ 0 then [] else if n ≤ ((freeN t t.length).length : Int) then (freeN t t.length).take n.toNat else []
theorem flD_stop {t : List (Int × Bool)} {n : Int} {i : Nat} (hi : i < t.length) (hz : t[i].1 = 0) (hn : 0 < n) (hl : ((freeN t i ++ [(i : Int) + 1]).length : Int) = n) : flD t n = freeN t i ++ [(i : Int) + 1] := by
  rw [← freeN_yes hi hz] at hl ⊢
  obtain ⟨h1, h2⟩ := freeN_pre (t := t) (i := i + 1) t.length (by omega)
  rw [flD, if_neg (by omega), if_pos (by omega), show n.toNat = (freeN t (i + 1)).length by omega]; exact h1
theorem flD_done {t : List (Int × Bool)} {n : Int} (hn : 0 < n) (hl : ((freeN t t.length).length : Int) < n) : flD t n = [] := by
  rw [flD, if_neg (by omega), if_neg (by omega)]
theorem impl_FreeLids {w : World} {F : List Nat} {v : Value} {t : List (Int × Bool)} {nn : Int} (hx : kE.R w F v t) (lt : t.length ≤ 1000000000) :
    Ret Tryz.prog 124 #[v, .int .i64 nn] w (fun r w' => ∃ e, Hold w [] w' [rR i64 e r (flD t nn)]) := by
  unfold Ret
  refine enterM (m := 3) Tryz.func124 rfl Tryz.ntmps124 (by rfl) (by rfl) ?_
  have H0 : Hold w [] w [] := Hold.start w
  refine sq (rg (ef (xbx (t := 2) rfl (cel1 rfl)) ?_))
  rintro _ w1 ⟨g3, e1, rfl, -, b1, c1⟩
  have H1 : Hold w [] w1 [rB g3 2 ([.int .i64 nn])] := Hold.newB H0 e1 b1 c1
  clear H0
  clear e1 b1 c1
  refine ef (xal ti86) ?_
  rintro _ w2 ⟨g4, e2, rfl, -, b2, c2⟩
  have H2 : Hold w [] w2 [rB g3 2 ([.int .i64 nn]), rB g4 86 ([.slice none 0 0])] := Hold.newB H1 e2 b2 c2
  clear H1
  clear e2 b2 c2
  refine re (sq (rg (ef (xal ti86) ?_)))
  rintro _ w3 ⟨g5, e3, rfl, -, b3, c3⟩
  have H3 : Hold w [] w3 [rB g3 2 ([.int .i64 nn]), rB g4 86 ([.slice none 0 0]), rB g5 86 ([.slice none 0 0])] := Hold.newB H2 e3 b3 c3
  clear H2
  clear e3 b3 c3
  have b4 : B w3 g3 2 ([.int .i64 nn]) := Hold.blk H3 0 rfl
  refine re (sq (sq (rg (r (ldb Tryz.underlying2 rfl rfl b4 rfl) (r (bi rfl rfl rfl) (re ?_))))))
  refine cp rfl (fun h0 => ?_) (fun h0 => ?_)
  · have b5 : B w3 g5 86 ([.slice none 0 0]) := Hold.blk H3 2 rfl
    have b6 : B w3 g4 86 ([.slice none 0 0]) := Hold.blk H3 1 rfl
    refine sq (rg (r (ldb Tryz.underlying86 rfl rfl b5 rfl) (ef0 (xst (vs := [.slice none 0 0]) ti86 rfl rfl (cel1 rfl) b6 rfl (Nat.le_of_ble_eq_true rfl) (one_all rfl)) ?_)))
    rintro w7 ⟨-, b7, c7⟩
    have H4 : Hold w [] w7 [rB g3 2 ([.int .i64 nn]), rB g4 86 ([.slice none 0 0]), rB g5 86 ([.slice none 0 0])] := Hold.setB H3 1 rfl b7 c7 rfl
    clear H3
    clear b7 c7
    refine re (rtM ?_)
    have H5 : Hold w [] w7 [rB g3 2 ([.int .i64 nn]), rB g4 86 ([.slice none 0 0]), rB g5 86 ([.slice none 0 0]), rR i64 2 (.slice none 0 0) ([])] := Hold.nilrow i64 2 H4
    clear H4
    have b8 : B w7 g4 86 ([.slice none 0 0]) := Hold.blk H5 1 rfl
    have H6 : Hold w [] w7 [rR i64 2 (.slice none 0 0) ([])] := (show Hold w [] w7 ([rR i64 2 (.slice none 0 0) ([])] ++ [rB g3 2 ([.int .i64 nn]), rB g4 86 ([.slice none 0 0]), rB g5 86 ([.slice none 0 0])]) from Hold.re H5 [3, 0, 1, 2] (by kernel_rfl) (by rfl)).drop
    clear H5
    exact finM0 Tryz.results124 Tryz.underlying86 rfl rfl b8 rfl ⟨_, rfl, 2, by rw [flD, if_pos h0]; exact H6⟩
  · refine sk (sq (sq (rg (r (mv rfl) (cl go149 (freeLids_mk (hx.t (Hold.ch H3))) (ac rfl an) ?_)))))
    rintro r wf ⟨g, rfl, Hf⟩
    have H4 : Hold w [] wf [rB g3 2 ([.int .i64 nn]), rB g4 86 ([.slice none 0 0]), rB g5 86 ([.slice none 0 0]), rB g 58 ([v])] := Hold.news H3 Hf
    clear H3
    clear Hf
    refine re (bl ?_)
    have H5 : Hold w [] wf [rB g3 2 ([.int .i64 nn]), rB g4 86 ([.slice none 0 0]), rB g5 86 ([.slice none 0 0]), rB g 58 ([v]), rR i64 2 (.slice none 0 0) ([])] := Hold.nilrow i64 2 H4
    clear H4
    have H6 : Hold w [] wf [rB g3 2 ([.int .i64 nn]), rB g4 86 ([.slice none 0 0]), rB g5 86 ([.slice none 0 0]), rR i64 2 (.slice none 0 0) ([]), rB g 58 ([v])] := Hold.re H5 [0, 1, 2, 4, 3] (by kernel_rfl) (by rfl)
    clear H5
    have hn0 : 0 < nn := by omega
    have b6 : B wf g 58 ([v]) := Hold.blk H6 4 rfl
    have hsz : w.heap.size ≤ wf.heap.size := Hold.size H6
    have hgl : g < wf.heap.size := B.lt b6
    refine rf (m := 3) (α := Int) (gf := 167) (lb := #[.pointer (some ⟨g, 0, none⟩)]) (enc := fun x => .int .i64 x) (Kp := Kept (g :: F)) (by omega) rfl go167 (freeLids_seq (mm := 2) b6 (hx.t (Hold.ch H6)) lt) (fun h h' => h.trans h') ?_ (fun pre W => ∃ o, Hold w [] W ([rB g3 2 ([.int .i64 nn]), rB g4 86 ([.slice none 0 0]), rB g5 86 ([o]), rR i64 2 o pre] ++ [rB g 58 ([v])]) ∧ (pre.length : Int) < nn) (fun c pre W => c = .ret ∧ ∃ o, Hold w [] W [rB g3 2 ([.int .i64 nn]), rB g4 86 ([o]), rB g5 86 ([o]), rR i64 2 o pre] ∧ (pre.length : Int) = nn) ?_ ?_ ⟨.slice none 0 0, H6, by simpa using hn0⟩ rfl rfl (by decide) rfl ?_ ?_ ?_
    · exact fun W l o o2 hl ho _ _ => ⟨by simp [World.putObj], fun k hk => World.putObj_heap_other (fun e => by
      subst e
      rcases List.mem_cons.1 hk with h | h
      · omega
      · have := hx.lt _ h; omega)⟩
    · exact fun s A B row ⟨o, H, hl⟩ hg hr => ⟨o, hold_own (by intro r hr; simp only [List.cons_append, List.nil_append, List.mem_cons, List.not_mem_nil, or_false] at hr; rcases hr with rfl | rfl | rfl | rfl | rfl <;> first | exact cel_B | exact cel_R) H hg hsz hr, hl⟩
    · exact fun c s A B row ⟨hc, o, H, hl⟩ hg hr => ⟨hc, o, hold_own (by intro r hr; simp only [List.mem_cons, List.not_mem_nil, or_false] at hr; rcases hr with rfl | rfl | rfl | rfl <;> first | exact cel_B | exact cel_R) H hg hsz hr, hl⟩
    · rintro l pre x W ⟨o, HI, hlen⟩ hN
      obtain ⟨F1, hF1, n1, K1, X1, s1⟩ := Hold.frontx (Γ := [rB g3 2 ([.int .i64 nn]), rB g4 86 ([.slice none 0 0]), rB g5 86 ([o]), rR i64 2 o pre]) (Δ := [rB g 58 ([v])]) HI
      have HB : Hold W F1 W [rB g3 2 ([.int .i64 nn]), rB g4 86 ([.slice none 0 0]), rB g5 86 ([o]), rR i64 2 o pre] := Hold.begin hF1 n1
      have hcel := cel_Hs (by intro r hr; simp only [List.mem_cons, List.not_mem_nil, or_false] at hr; rcases hr with rfl | rfl | rfl | rfl <;> first | exact cel_B | exact cel_R) hF1
      obtain ⟨_, ⟨rfl, hgB⟩, hgx⟩ := X1 0 (rB g 58 ([v])) rfl
      have b7 : B W g5 86 ([o]) := Hold.blk HB 2 rfl
      refine bl (sq (rg (r (ldb Tryz.underlying86 rfl rfl b7 rfl) (r (mv rfl) (ef (xbs1 (cs := [.int .i64 x]) Tryz.underlying86 ti2 rfl rfl rfl (cel1 rfl) rfl) ?_)))))
      rintro _ w8 ⟨g15, e8, rfl, -, b8, c8⟩
      have H201 : Hold W F1 w8 [rB g3 2 ([.int .i64 nn]), rB g4 86 ([.slice none 0 0]), rB g5 86 ([o]), rR i64 2 o pre, rB g15 2 ([.int .i64 x])] := Hold.newB HB e8 b8 c8
      clear HB
      clear e8 b8 c8
      have b10 : B w8 g15 2 ([.int .i64 x]) := Hold.blk H201 4 rfl
      obtain ⟨F11, P11, n11, s11, K11⟩ := Hold.pick H201 3 rfl
      replace P11 : Kd.W i64 2 w8 F11 o pre := P11
      refine ef (xapb (ys := [x]) Tryz.underlying86 ti2 rfl rfl rfl P11 b10 (els_one (R := Kd.O i64 _) (show Kd.O i64 _ [] x _ from ⟨rfl, rfl⟩)) (nodup_nil n11) (by simp; omega)) ?_
      rintro v16_9 w9 ⟨F9, A9⟩
      have H202 : Hold W F1 w9 [rB g3 2 ([.int .i64 nn]), rB g4 86 ([.slice none 0 0]), rB g5 86 ([o]), rR i64 2 v16_9 (pre ++ [x]), rB g15 2 ([.int .i64 x])] := Hold.apd K11 P11 A9 rfl
      clear H201
      clear A9 K11 P11 n11 s11
      have b12 : B w9 g5 86 ([o]) := Hold.blk H202 2 rfl
      obtain ⟨_, R14⟩ : ∃ F, Kd.R i64 w9 F v16_9 (pre ++ [x]) := Hold.row H202 3 rfl
      refine ef0 (xst (vs := [v16_9]) ti86 rfl rfl (cel1 (R14).oneCell) b12 rfl (Nat.le_of_ble_eq_true rfl) (ones1 (R14).oneCell)) ?_
      rintro w13 ⟨-, b13, c13⟩
      have H203 : Hold W F1 w13 [rB g3 2 ([.int .i64 nn]), rB g4 86 ([.slice none 0 0]), rB g5 86 ([v16_9]), rR i64 2 v16_9 (pre ++ [x]), rB g15 2 ([.int .i64 x])] := Hold.setB H202 2 rfl b13 c13 rfl
      clear H202
      clear b13 c13
      have b15 : B w13 g5 86 ([v16_9]) := Hold.blk H203 2 rfl
      obtain ⟨_, R16⟩ : ∃ F, Kd.R i64 w13 F v16_9 (pre ++ [x]) := Hold.row H203 3 rfl
      have b17 : B w13 g3 2 ([.int .i64 nn]) := Hold.blk H203 0 rfl
      refine re (sq (rg (r (ldb Tryz.underlying86 rfl rfl b15 rfl) (r (ln Tryz.underlying86 rfl (R16)) (r (ldb Tryz.underlying2 rfl rfl b17 rfl) (r (bi rfl rfl rfl) (re ?_)))))))
      refine cp rfl (fun hq => ?_) (fun hq => ?_)
      · have b18 : B w13 g4 86 ([.slice none 0 0]) := Hold.blk H203 1 rfl
        refine sq (rg (r (ldb Tryz.underlying86 rfl rfl b15 rfl) (ef0 (xst (vs := [v16_9]) ti86 rfl rfl (cel1 (R16).oneCell) b18 rfl (Nat.le_of_ble_eq_true rfl) (ones1 (R16).oneCell)) ?_)))
        rintro w19 ⟨-, b19, c19⟩
        have H204 : Hold W F1 w19 [rB g3 2 ([.int .i64 nn]), rB g4 86 ([v16_9]), rB g5 86 ([v16_9]), rR i64 2 v16_9 (pre ++ [x]), rB g15 2 ([.int .i64 x])] := Hold.setB H203 1 rfl b19 c19 rfl
        clear H203
        clear b19 c19
        refine re (retq ?_)
        have H205 : Hold W F1 w19 [rB g3 2 ([.int .i64 nn]), rB g4 86 ([v16_9]), rB g5 86 ([v16_9]), rR i64 2 v16_9 (pre ++ [x])] := (show Hold W F1 w19 ([rB g3 2 ([.int .i64 nn]), rB g4 86 ([v16_9]), rB g5 86 ([v16_9]), rR i64 2 v16_9 (pre ++ [x])] ++ [rB g15 2 ([.int .i64 x])]) from Hold.re H204 [0, 1, 2, 3, 4] (by kernel_rfl) (by rfl)).drop
        clear H204
        exact fun a => ⟨keeps_of_ch (Hold.ch H205) hcel, rfl, _, Hold.drop (Hold.call K1 H205), hq⟩
      · refine sk (be ?_)
        have H204 : Hold W F1 w13 [rB g3 2 ([.int .i64 nn]), rB g4 86 ([.slice none 0 0]), rB g5 86 ([v16_9]), rR i64 2 v16_9 (pre ++ [x])] := (show Hold W F1 w13 ([rB g3 2 ([.int .i64 nn]), rB g4 86 ([.slice none 0 0]), rB g5 86 ([v16_9]), rR i64 2 v16_9 (pre ++ [x])] ++ [rB g15 2 ([.int .i64 x])]) from Hold.re H203 [0, 1, 2, 3, 4] (by kernel_rfl) (by rfl)).drop
        clear H203
        simp only [List.length_append, List.length_cons, List.length_nil] at hq
        refine endq (fun a => ⟨keeps_of_ch (Hold.ch H204) hcel, ⟨(Hold.ch H204).size, fun k hk => ?_⟩, _, Hold.call K1 H204, by simp; omega⟩)
        rcases List.mem_cons.1 hk with rfl | h
        · exact (Hold.ch H204).blk _ hgB.lt (hgx _ (by simp))
        · exact (Hold.ch H204).blk k (Nat.lt_of_lt_of_le (hx.lt k h) (Hold.size HI)) (dis_of0 hx.lt s1 k h)
    · rintro D xs W hD rfl ⟨o, HI, hlen⟩ hH
      obtain ⟨F1, hF1, n1, K1, X1, s1⟩ := Hold.frontx (Γ := [rB g3 2 ([.int .i64 nn]), rB g4 86 ([.slice none 0 0]), rB g5 86 ([o]), rR i64 2 o (freeN t t.length)]) (Δ := [rB g 58 ([v])]) HI
      have HB : Hold W F1 W [rB g3 2 ([.int .i64 nn]), rB g4 86 ([.slice none 0 0]), rB g5 86 ([o]), rR i64 2 o (freeN t t.length)] := Hold.begin hF1 n1
      have hcel := cel_Hs (by intro r hr; simp only [List.mem_cons, List.not_mem_nil, or_false] at hr; rcases hr with rfl | rfl | rfl | rfl <;> first | exact cel_B | exact cel_R) hF1
      have b7 : B W g4 86 ([.slice none 0 0]) := Hold.blk HB 1 rfl
      refine be (sq (rg (ef0 (xst (vs := [.slice none 0 0]) ti86 rfl rfl (cel1 rfl) b7 rfl (Nat.le_of_ble_eq_true rfl) (one_all rfl)) ?_)))
      rintro w8 ⟨-, b8, c8⟩
      have H201 : Hold W F1 w8 [rB g3 2 ([.int .i64 nn]), rB g4 86 ([.slice none 0 0]), rB g5 86 ([o]), rR i64 2 o (freeN t t.length)] := Hold.setB HB 1 rfl b8 c8 rfl
      clear HB
      clear b8 c8
      refine re (rtM ?_)
      have b9 : B w8 g4 86 ([.slice none 0 0]) := Hold.blk H201 1 rfl
      have hH2 := (keeps_of_ch (Hold.ch H201) hcel).same D _ hH rfl
      have HE := Hold.call K1 H201
      have HN := hold_own (b := wf.heap.size) (by intro r hr; rw [List.mem_singleton.1 hr]; exact cel_R) (Hold.nilrow i64 2 (Hold.nil HE)) (grownBy_putObj' _ D (.deferred none)) hsz (fun r e => by cases e; exact ⟨hD, _, hH2, rfl⟩)
      exact finM Tryz.results124 Tryz.underlying86 rfl rfl b9 rfl hH2 ⟨_, rfl, 2, by rw [flD_done hn0 hlen]; exact HN⟩
    · rintro D c pre W hD ⟨i, hi, hz, rfl⟩ ⟨rfl, o, HI, hlen⟩ hH
      refine ⟨rfl, rtM ?_⟩
      have hb4 := Hold.blk HI 1 rfl
      have HN := hold_own (b := wf.heap.size) (by intro r hr; rw [List.mem_singleton.1 hr]; exact cel_R) (Hold.last HI 3 rfl) (grownBy_putObj' _ D (.deferred none)) hsz (fun r e => by cases e; exact ⟨hD, _, hH, rfl⟩)
      exact finM Tryz.results124 Tryz.underlying86 rfl rfl hb4 rfl hH ⟨_, rfl, 2, by rw [flD_stop hi hz hn0 hlen]; exact HN⟩
end Go.Proofs.YtanfhikfeabidaaGreatDoor

namespace Go.Eng
set_option linter.unusedVariables false
set_option linter.unusedSimpArgs false
def rP (a b : Rs) : Rs where
  P w F := ∃ F1 F2, F = F1 ++ F2 ∧ a.P w F1 ∧ b.P w F2
  mv := by
    rintro w w' F hm ⟨F1, F2, rfl, h1, h2⟩
    exact ⟨F1, F2, rfl, a.mv (fun k hk => hm k (List.mem_append_left _ hk)) h1, b.mv (fun k hk => hm k (List.mem_append_right _ hk)) h2⟩
  lt := by
    rintro w F ⟨F1, F2, rfl, h1, h2⟩ k hk
    rcases List.mem_append.1 hk with hk | hk
    · exact a.lt h1 k hk
    · exact b.lt h2 k hk
/-- A block, whatever it holds. -/
def rAn (g : Nat) (T : TypeId) : Rs := exR (fun cs : List Value => rB g T cs)
/-- A plain fact beside a resource. -/
def rF (p : Prop) (a : Rs) : Rs where
  P w F := p ∧ a.P w F
  mv := fun hm h => ⟨h.1, a.mv hm h.2⟩
  lt := fun h => a.lt h.2
section
variable {w0 w w' : World} {F0 : List Nat} {Γ Δ : List Rs} {i : Nat}
theorem Hold.exi {β : Type} {r : β → Rs} (b : β) (H : Hold w0 F0 w (r b :: Γ)) : Hold w0 F0 w (exR r :: Γ) := by
  obtain ⟨F, ⟨F1, F2, rfl, h1, h2⟩, T⟩ := H
  exact ⟨F1 ++ F2, ⟨F1, F2, rfl, ⟨b, h1⟩, h2⟩, T⟩
theorem Hold.exe {β : Type} {r : β → Rs} (H : Hold w0 F0 w (exR r :: Γ)) : ∃ b, Hold w0 F0 w (r b :: Γ) := by
  obtain ⟨F, ⟨F1, F2, rfl, ⟨b, h1⟩, h2⟩, T⟩ := H
  exact ⟨b, F1 ++ F2, ⟨F1, F2, rfl, h1, h2⟩, T⟩
theorem Hold.facti {p : Prop} {a : Rs} (hp : p) (H : Hold w0 F0 w (a :: Γ)) : Hold w0 F0 w (rF p a :: Γ) := by
  obtain ⟨F, ⟨F1, F2, rfl, h1, h2⟩, T⟩ := H
  exact ⟨F1 ++ F2, ⟨F1, F2, rfl, ⟨hp, h1⟩, h2⟩, T⟩
theorem Hold.facte {p : Prop} {a : Rs} (H : Hold w0 F0 w (rF p a :: Γ)) : p ∧ Hold w0 F0 w (a :: Γ) := by
  obtain ⟨F, ⟨F1, F2, rfl, ⟨hp, h1⟩, h2⟩, T⟩ := H
  exact ⟨hp, F1 ++ F2, ⟨F1, F2, rfl, h1, h2⟩, T⟩
end
section
variable {P : Program} {n : Nat} {k : List It} {Qf : Exit → Act → World → Prop} {ρ : Fr} {ds : List Deferred} {w : World} {ops : Array Oper} {K : Fr → World → Prop} {Kp : List PanicEntry → World → Prop} {S' : World → Prop} {fuel : Nat} {listed : Array Bool}
end
section
variable {P : Program} {ρ : Fr} {w : World} {d : Option Nat} {ty : TypeId} {pos : String} {af : Array Edge}
theorem mn2 {x y : Operand} {kd kd' : IntKind} {a b : Int} {ts : Array TypeId} (c : Int) (hx : ev ρ x = .int kd a) (hy : ev ρ y = .int kd' b) (hc : (if b < a then b else a) = c) : Rn P ρ ⟨d, .call ⟨.builtin .min, #[x, y], ts⟩, ty, pos, af, none⟩ w (.int kd c) := by
  subst hc
  exact ⟨rfl, fun w' _ => by simp [execOp, resolve, invoke, builtin, hx, hy, Builtin.min_, Builtin.min2]⟩
end
section
variable {P : Program} {n : Nat} {k : List It} {Qf : Exit → Act → World → Prop} {ρ : Fr} {ds : List Deferred} {w : World}
/-- The ways through a piece of code meet again behind it. -/
def Meet {α : Type} (n : Nat) (ds : List Deferred) (I : α → Fr → World → Prop) : Act → World → Prop := fun a w => ∃ x ρ, Sim n ρ ds a ∧ I x ρ w
theorem jn {α : Type} {c : Code} (I : α → Fr → World → Prop) (h : S P n (.c c :: .l (Meet n ds I) :: k) Qf ρ ds w) (h2 : ∀ x ρ' w', I x ρ' w' → S P n k Qf ρ' ds w') : S P n (.c c :: k) Qf ρ ds w := by
  intro hk a ha
  simp only [okk, Bool.and_eq_true] at hk
  have hb := h (by simp [okk, hk]) a ha
  refine wp_mono hb (fun e a' w' he => ?_)
  cases e with
  | normal => obtain ⟨x, ρ', hs, hI⟩ := he; exact h2 x ρ' w' hI hk.2 a' hs
  | exit id => exact he
  | goto l => exact he
  | ret => exact he
  | panic ch => exact he
  | outgrown => exact he
theorem je {α : Type} {I : α → Fr → World → Prop} (x : α) (h : I x ρ w) : S P n (.l (Meet n ds I) :: k) Qf ρ ds w := fun _ a ha => ⟨x, ρ, ha, h⟩
end
end Go.Eng

namespace Go.Eng
set_option linter.unusedVariables false
set_option linter.unusedSimpArgs false
section
variable {P : Program} {n : Nat} {k : List It} {Qf : Exit → Act → World → Prop} {ρ : Fr} {ds : List Deferred} {w : World} {ops : Array Oper} {rest : List Oper}
variable {d : Option Nat} {ty : TypeId} {pos : String} {af : Array Edge}
theorem pel {t u e : TypeId} {x : Operand} {p : Option Addr} (ht : P.underlying t = some (.pointer e)) (hx : ev ρ x = .pointer p) : Rn P ρ ⟨d, .binOp .eql t x (.const (.pointer none)) u, ty, pos, af, none⟩ w (.bool p.isNone) := by
  refine ⟨rfl, fun w' _ => ?_⟩
  have h := run_eql_pointer_nil (P := P) w' t p (by rw [ht]; simp [Program.pointee, ht])
  simp only [execOp, hx, show ev ρ (.const (.pointer none)) = .pointer none from rfl, Sem.run_bind, show (eqGuard .eql t x (.const (.pointer none)) (.pointer p) (.pointer none)).run P w' = .ok () w' by simp [eqGuard], Result.andThen_ok, h, Sem.run_pure]
theorem pns {t u e : TypeId} {z : Value} {sz by_ : Nat} {x y : Operand} {a : Addr} (ht : P.underlying t = some (.pointer e)) (hi : TI P e z sz by_) (hx : ev ρ x = .pointer (some a)) (hy : ev ρ y = .pointer (some a)) : Rn P ρ ⟨d, .binOp .neq t x y u, ty, pos, af, none⟩ w (.bool false) := by
  obtain ⟨i0, hi0, _, _, _⟩ := info_parts hi
  refine ⟨rfl, fun w' _ => ?_⟩
  have h := Go.Lib.run_neq_ptr_same (P := P) w' a ht hi0
  simp only [execOp, hx, hy, Sem.run_bind, show (eqGuard .neq t x y (.pointer (some a)) (.pointer (some a))).run P w' = .ok () w' by simp [eqGuard], Result.andThen_ok, h, Sem.run_pure]
theorem andl {t u : TypeId} {x y : Operand} {k : IntKind} {a b : Int} (c : Int) (hx : ev ρ x = .int k a) (hy : ev ρ y = .int k b) (hc : bits .and k a b = c) : Rn P ρ ⟨d, .binOp .and t x y u, ty, pos, af, none⟩ w (.int k c) :=
  ⟨rfl, fun w' _ => by simp [execOp, hx, hy, eqGuard, binOp, show Op.intBits .and k a b = pure (.int k (bits .and k a b)) from rfl, hc]⟩
theorem adw {t u : TypeId} {x y : Operand} {kd : IntKind} {a b : Int} (c : Int) (hx : ev ρ x = .int kd a) (hy : ev ρ y = .int kd b) (hc : kd.wrap (a + b) = c) : Rn P ρ ⟨d, .binOp .add t x y u, ty, pos, af, none⟩ w (.int kd c) :=
  ⟨rfl, fun w' _ => by simp [execOp, hx, hy, eqGuard, binOp, Op.intArith, hc]⟩
theorem B.shape {g : Nat} {T : TypeId} {cs : List Value} (h : B w g T cs) : w.shape? g = some (T, cs.length) := by simp [World.shape?, show w.heap[g]? = _ from h]
theorem cvu {s t e T : TypeId} {z : Value} {sz by_ : Nat} {x : Operand} {g : Nat} {cs : List Value} (hs : P.underlying s = some (.pointer e)) (ht : P.underlying t = some .unsafePointer) (hi : TI P e z sz by_) (hB : B w g T cs) (hx : ev ρ x = .pointer (some ⟨g, 0, none⟩)) (h0 : sz ≠ 0) (hl : 0 < cs.length) : Rn P ρ ⟨d, .convert s t x, ty, pos, af, none⟩ w (.pointer (some ⟨g, 0, none⟩)) := by
  obtain ⟨i0, hi0, _, hsz, _⟩ := info_parts hi
  refine ⟨rfl, fun w' hw => ?_⟩
  have h := Go.Lib.run_to_unsafe (P := P) w' ⟨g, 0, none⟩ hs ht hi0 (by rw [hsz]; exact h0) (hw.b0 hB).shape hl
  simp only [execOp, hx, Sem.run_bind, h, Result.andThen_ok, Sem.run_pure]
theorem cvdn {s t e T : TypeId} {z : Value} {sz by_ : Nat} {x : Operand} {g : Nat} {cs : List Value} (hs : P.underlying s = some .unsafePointer) (ht : P.underlying t = some (.pointer e)) (hi : TI P e z sz by_) (hB : B w g T cs) (hx : ev ρ x = .pointer (some ⟨g, 0, none⟩)) (hl : liesAt P P.depth T (cs.length / P.cellsOf T) 0 e 1 = true) : Rn P ρ ⟨d, .convert s t x, ty, pos, af, none⟩ w (.pointer (some ⟨g, 0, none⟩)) := by
  obtain ⟨i0, hi0, _, hsz, _⟩ := info_parts hi
  refine ⟨rfl, fun w' hw => ?_⟩
  have h := Go.Lib.run_from_unsafe (P := P) w' ⟨g, 0, none⟩ hs ht hi0 (hw.b0 hB).shape hl
  simp only [execOp, hx, Sem.run_bind, h, Result.andThen_ok, Sem.run_pure]
/-- A call of a function without a body whose entry gives a value at once. -/
theorem xtn {f : FuncId} {x : Operand} {v u : Value} {ts : Array TypeId} (hc : ∀ w : World, (callFunc f #[v]).run P w = .ok (.value u) w) (hx : ev ρ x = v) : Rn P ρ ⟨d, .call ⟨.value (.func f), #[x], ts⟩, ty, pos, af, none⟩ w u :=
  ⟨rfl, fun w' _ => by
    have h := hc w'
    rw [← hx] at h
    have e : execOp (ev ρ) ⟨d, .call ⟨.value (.func f), #[x], ts⟩, ty, pos, af, none⟩ = callFunc f #[ev ρ x] := by simp [execOp, resolve, Deferred.ofValue, invoke, show ev ρ (.func f) = .func (.func f) #[] #[] from rfl]
    have h2 : (callFunc f #[ev ρ x]).run P w' = .ok (.value u) w' := by
      have e2 : ev ρ x = v := hx
      rw [e2]; exact hc w'
    rw [e, h2]⟩
end
section
variable {P : Program} {w : World}
end
end Go.Eng

namespace Go.Eng
set_option linter.unusedVariables false
set_option linter.unusedSimpArgs false
/-- The answer of a list of pairs: the first that has the key. -/
def lookS : List (ByteArray × Value) → ByteArray → Option Value
  | [], _ => none
  | (a, v) :: m, k => if k = a then some v else lookS m k
def MpS (w : World) (g : Nat) (m : List (ByteArray × Value)) : Prop := ∃ es clock, w.heap[g]? = some (.map es clock) ∧ es.toList.map (fun e => (e.key, e.val)) = m.map (fun p => (Value.string p.1, p.2))
theorem MpS.t {w w' : World} {g : Nat} {m : List (ByteArray × Value)} (c : Ch [] w w') (h : MpS w g m) : MpS w' g m := by
  obtain ⟨es, clock, hb, he⟩ := h
  exact ⟨es, clock, (c.blk g (Array.getElem?_eq_some_iff.1 hb).1 (by simp)).trans hb, he⟩
def rMS (g : Nat) (m : List (ByteArray × Value)) : Rs where
  P w F := F = [g] ∧ MpS w g m
  mv := fun hm h => ⟨h.1, by obtain ⟨es, c, hb, he⟩ := h.2; exact ⟨es, c, (hm g (by rw [h.1]; simp)).trans hb, he⟩⟩
  lt := fun h k hk => by
    rw [h.1] at hk; rw [List.mem_singleton.1 hk]
    obtain ⟨es, c, hb, he⟩ := h.2
    exact (Array.getElem?_eq_some_iff.1 hb).1
theorem findNow_str : ∀ (es : List MapEntry) (m : List (ByteArray × Value)) (k : ByteArray) (i : Nat), es.map (fun e => (e.key, e.val)) = m.map (fun p => (Value.string p.1, p.2)) → (lookS m k = none ∧ Instr.findNow .string (.string k) es i = some none) ∨
    ∃ j v, lookS m k = some v ∧ Instr.findNow .string (.string k) es i = some (some (i + j, v))
  | [], [], k, i, _ => .inl ⟨rfl, rfl⟩
  | [], _ :: _, _, _, h => by simp at h
  | _ :: _, [], _, _, h => by simp at h
  | e :: es, (a, v) :: m, k, i, h => by
    simp only [List.map_cons, List.cons.injEq, Prod.mk.injEq] at h
    obtain ⟨⟨hk, hv⟩, ht⟩ := h
    by_cases hka : k = a
    · subst hka
      have hs : Instr.sameNow .string (.string k) e.key = some true := by rw [hk]; show some (k == k) = _; simp [MapKept.bytes_beq]
      exact .inr ⟨0, v, by simp [lookS], by simp [Instr.findNow, hs, hv]⟩
    · have hs : Instr.sameNow .string (.string k) e.key = some false := by rw [hk]; show some (k == a) = _; congr 1; exact Bool.eq_false_iff.2 (fun q => hka ((MapKept.bytes_beq _ _).1 q))
      rcases findNow_str es m k (i + 1) ht with ⟨h1, h2⟩ | ⟨j, u, h1, h2⟩
      · exact .inl ⟨by simp [lookS, hka, h1], by simp [Instr.findNow, hs, h2]⟩
      · exact .inr ⟨j + 1, u, by simp [lookS, hka, h1], by simp [Instr.findNow, hs, h2]; omega⟩
section
variable {P : Program} {n : Nat} {k : List It} {Qf : Exit → Act → World → Prop} {ρ : Fr} {ds : List Deferred} {w : World} {ops : Array Oper} {rest : List Oper} {d : Option Nat} {ty : TypeId} {pos : String} {af : Array Edge}
def NewMS (w : World) (v : Value) (w' : World) : Prop := ∃ g, g = w.heap.size ∧ v = .map (some g) ∧ MpS w' g [] ∧ Ch [] w w'
theorem xmms {t : TypeId} : Ex P ρ ⟨d, .makeMap t none, ty, pos, af, none⟩ w (NewMS w) := by
  refine ⟨rfl, .map (some w.heap.size), w.alloc (.map #[] 0), ?_, _, rfl, rfl, ⟨#[], 0, heap_alloc_new _ _, rfl⟩, ch_alloc _ _⟩
  simp [execOp, Instr.makeMap]
theorem Hold.newMS {w0 w w' : World} {F0 : List Nat} {Γ : List Rs} {g : Nat} {m : List (ByteArray × Value)} (H : Hold w0 F0 w Γ) (e : g = w.heap.size) (h : MpS w' g m) (c : Ch [] w w') : Hold w0 F0 w' (Γ ++ [rMS g m]) :=
  H.new (r := rMS g m) ⟨rfl, h⟩ (by simp) (fun k hk => by rw [List.mem_singleton.1 hk, e]; exact Nat.le_refl _) c
theorem lkps {t kt et : TypeId} {x y : Operand} {g : Nat} {m : List (ByteArray × Value)} {a : ByteArray} {z : Value} {sz by_ : Nat} (ht : P.underlying t = some (.map kt et)) (hk : P.underlying kt = some .string) (hi : TI P et z sz by_) (hx : ev ρ x = .map (some g)) (hy : ev ρ y = .string a) (hM : MpS w g m) :
    Rn P ρ ⟨d, .lookup t x y true, ty, pos, af, none⟩ w (.tuple #[(lookS m a).getD z, .bool (lookS m a).isSome]) := by
  refine ⟨rfl, fun w' c => ?_⟩
  obtain ⟨es, clock, hb, he⟩ := hM.t c
  obtain ⟨i0, hi0, hz, _, _⟩ := info_parts hi
  have hck : (Instr.checkKey es.isEmpty 10000 kt (.string a)).run P w' = .ok () w' := MapKept.run_checkKey (k := .string a) hk (by simp [MapKept.IsKey]) _ 9999
  rcases findNow_str es.toList m a 0 he with ⟨h1, h2⟩ | ⟨j, v, h1, h2⟩
  · simp [execOp, Instr.lookup, hx, hy, run_underlying ht, MapKept.run_getObj_map hb, hck, MapKept.run_findKey hk h2, h1, zeroValue, typeInfo, hi0, hz, run_program]
  · simp [execOp, Instr.lookup, hx, hy, run_underlying ht, MapKept.run_getObj_map hb, hck, MapKept.run_findKey hk h2, h1]
/-- 's[l:]' of a text. -/
theorem ssl {t : TypeId} {x y : Operand} {s : ByteArray} {kd : IntKind} (l : Nat) (ht : P.underlying t = some .string) (hx : ev ρ x = .string s) (hy : ev ρ y = .int kd (l : Int)) (hl : l ≤ s.size) : Rn P ρ ⟨d, .slice t x (some y) none none, ty, pos, af, none⟩ w (.string (mkS ((nums8 s).drop l))) := by
  refine ⟨rfl, fun w' _ => ?_⟩
  have e : s.extract l s.size = mkS ((nums8 s).drop l) := by
    apply ba_ext
    rw [mkS_data, Go.Lib.extract_to_end, nums8, ← List.map_drop, List.map_map]
    conv => lhs; rw [← List.map_id (List.drop _ _)]
    apply List.map_congr_left
    intro b _
    simp
  have h := run_slice_string_l (P := P) (w := w') (t := t) (s := s) ht kd (l : Int) (by omega) (by omega)
  rw [Int.toNat_natCast, e] at h
  simp [execOp, hx, hy, run_sliceAt_string (P := P) (h := ht), h]
theorem inne {x : Operand} {t u : TypeId} {ms : Array (String × TypeId)} (ht : P.underlying t = some (.interface ms)) (hx : ev ρ x = .nilIface) : Rn P ρ ⟨d, .binOp .neq t x (.const .nilIface) u, ty, pos, af, none⟩ w (.bool false) := by
  refine ⟨rfl, fun w' _ => ?_⟩
  have h1 : (Op.equal t .nilIface .nilIface).run P w' = .ok true w' := run_eqIn_nil ht 9999 w'
  have h2 : (eqGuard .neq t x (.const .nilIface) .nilIface .nilIface).run P w' = .ok () w' := by simp [eqGuard]
  have h3 : binOp .neq t .nilIface .nilIface = (do pure (.bool (!(← Op.equal t .nilIface .nilIface)))) := rfl
  simp only [execOp, hx, show ev ρ (.const .nilIface) = .nilIface from rfl, Sem.run_bind, h2, Result.andThen_ok, h3, h1, Sem.run_pure, Bool.not_true]
end
section
variable {P : Program} {n : Nat} {k : List It} {Qf : Exit → Act → World → Prop} {ρ : Fr} {ds : List Deferred} {w : World} {ops : Array Oper} {K : Fr → World → Prop} {Kp : List PanicEntry → World → Prop} {S' : World → Prop} {fuel : Nat} {listed : Array Bool}
end
section
variable {P : Program} {ρ : Fr} {w : World} {d : Option Nat} {ty : TypeId} {pos : String} {af : Array Edge}
/-- The length of a slice that is written out; the address of its element. -/
theorem lnl {x : Operand} {t e : TypeId} {A : Option Addr} {m c : Nat} (ht : P.underlying t = some (.slice e)) (hx : ev ρ x = .slice A m c) : Rn P ρ ⟨d, .call ⟨.builtin .len, #[x], #[t]⟩, ty, pos, af, none⟩ w (.int .i64 (m : Int)) :=
  ⟨rfl, fun w' _ => by simp [execOp, resolve, invoke, builtin, Builtin.len_, run_underlying ht, hx, goInt]⟩
end
end Go.Eng

namespace Go.Eng
open Go.ChangeMaps (setBlock)
set_option linter.unusedVariables false
set_option linter.unusedSimpArgs false
abbrev KV := ByteArray × Value
def encS (es : List MapEntry) (m : List KV) : Prop := es.map (fun e => (e.key, e.val)) = m.map (fun p => (Value.string p.1, p.2))
def delS : List KV → ByteArray → List KV
  | [], _ => []
  | (a, v) :: m, k => if k = a then m else (a, v) :: delS m k
def updS : List KV → ByteArray → Value → List KV
  | [], k, v => [(k, v)]
  | (a, u) :: m, k, v => if k = a then (k, v) :: m else (a, u) :: updS m k v
def MpW (w : World) (g : Nat) (m : List KV) : Prop := ∃ es clock, w.heap[g]? = some (.map es clock) ∧ MapKept.Stamped es clock ∧ encS es.toList m
theorem MpW.s {w : World} {g : Nat} {m : List KV} (h : MpW w g m) : MpS w g m := let ⟨es, c, h1, _, h3⟩ := h; ⟨es, c, h1, h3⟩
theorem MpW.mv {w w' : World} {g : Nat} {m : List KV} (hm : w'.heap[g]? = w.heap[g]?) (h : MpW w g m) : MpW w' g m := let ⟨es, c, h1, h2, h3⟩ := h; ⟨es, c, hm.trans h1, h2, h3⟩
theorem MpW.lt {w : World} {g : Nat} {m : List KV} (h : MpW w g m) : g < w.heap.size := let ⟨_, _, h1, _, _⟩ := h; (Array.getElem?_eq_some_iff.1 h1).1
theorem MpW.t {w w' : World} {g : Nat} {m : List KV} (c : Ch [] w w') (h : MpW w g m) : MpW w' g m := h.mv (c.blk g h.lt (by simp))
theorem MpW.tt {w w' : World} {G : List Nat} {g : Nat} {m : List KV} (c : Ch G w w') (hg : g ∉ G) (h : MpW w g m) : MpW w' g m := h.mv (c.blk g h.lt hg)
def rMW (g : Nat) (m : List KV) : Rs where
  P w F := F = [g] ∧ MpW w g m
  mv := fun hm h => ⟨h.1, h.2.mv (hm g (by rw [h.1]; simp))⟩
  lt := fun h k hk => by rw [h.1] at hk; rw [List.mem_singleton.1 hk]; exact h.2.lt
theorem find_full : ∀ (es : List MapEntry) (m : List KV) (k : ByteArray) (i : Nat), encS es m → (lookS m k = none ∧ Instr.findNow .string (.string k) es i = some none ∧ delS m k = m ∧ (∀ v, updS m k v = m ++ [(k, v)]) ∧ ∀ x, x ∈ es → x.key ≠ .string k) ∨
    ∃ j v, lookS m k = some v ∧ Instr.findNow .string (.string k) es i = some (some (i + j, v)) ∧ delS m k = m.eraseIdx j ∧ (∀ u, updS m k u = m.set j (k, u)) ∧ ∃ e, es[j]? = some e ∧ e.key = .string k
  | [], [], k, i, _ => .inl ⟨rfl, rfl, rfl, fun _ => rfl, fun x hx => by cases hx⟩
  | [], _ :: _, _, _, h => by simp [encS] at h
  | _ :: _, [], _, _, h => by simp [encS] at h
  | e :: es, (a, v) :: m, k, i, h => by
    simp only [encS, List.map_cons, List.cons.injEq, Prod.mk.injEq] at h
    obtain ⟨⟨hk, hv⟩, ht⟩ := h
    by_cases hka : k = a
    · subst hka
      have hs : Instr.sameNow .string (.string k) e.key = some true := by rw [hk]; show some (k == k) = _; simp [MapKept.bytes_beq]
      exact .inr ⟨0, v, by simp [lookS], by simp [Instr.findNow, hs, hv], by simp [delS], fun u => by simp [updS], e, rfl, hk⟩
    · have hs : Instr.sameNow .string (.string k) e.key = some false := by rw [hk]; show some (k == a) = _; congr 1; exact Bool.eq_false_iff.2 (fun q => hka ((MapKept.bytes_beq _ _).1 q))
      rcases find_full es m k (i + 1) ht with ⟨h1, h2, h3, h4, h5⟩ | ⟨j, u, h1, h2, h3, h4, e', h5, h6⟩
      · refine .inl ⟨by simp [lookS, hka, h1], by simp [Instr.findNow, hs, h2], by simp [delS, hka, h3], fun v => by simp [updS, hka, h4], fun x hx => ?_⟩
        rcases List.mem_cons.1 hx with rfl | hx
        · rw [hk]; intro q; injection q with q; exact hka q.symm
        · exact h5 x hx
      · exact .inr ⟨j + 1, u, by simp [lookS, hka, h1], by simp [Instr.findNow, hs, h2]; omega, by simp [delS, hka, h3], fun v => by simp [updS, hka, h4], e', by simpa using h5, h6⟩
theorem map_erase {α β : Type} (f : α → β) : ∀ (l : List α) (j : Nat), (l.eraseIdx j).map f = (l.map f).eraseIdx j
  | [], _ => by simp
  | a :: l, 0 => rfl
  | a :: l, j + 1 => by simp [map_erase f l j]
theorem encS_erase {es : List MapEntry} {m : List KV} (h : encS es m) (j : Nat) : encS (es.eraseIdx j) (m.eraseIdx j) := by
  unfold encS at h ⊢
  rw [map_erase, map_erase, h]
theorem encS_set {es : Array MapEntry} {m : List KV} (h : encS es.toList m) {j : Nat} {e : MapEntry} (hj : es[j]? = some e) {k : ByteArray} {v : Value} (F : MapEntry → MapEntry) (hF : ∀ e, (F e).key = .string k ∧ (F e).val = v) : encS (es.modify j F).toList (m.set j (k, v)) := by
  unfold encS at h ⊢
  rw [Array.toList_modify]
  apply List.ext_getElem?
  intro i
  have hi := congrArg (fun l => l[i]?) h
  simp only [List.getElem?_map] at hi
  simp only [List.getElem?_map, List.getElem?_modify, List.getElem?_set]
  by_cases hij : j = i
  · subst hij
    have hlt : j < es.size := (Array.getElem?_eq_some_iff.1 hj).1
    have hlm : j < m.length := by have := congrArg List.length h; simp at this; omega
    simp [hj, hlt, hlm, hF]
  · simp only [hij, if_false, id_map']
    simpa using hi
section
variable {P : Program} {n : Nat} {ρ : Fr} {ds : List Deferred} {w : World} {d : Option Nat} {ty : TypeId} {pos : String} {af : Array Edge}
theorem xmmw {t : TypeId} : Ex P ρ ⟨d, .makeMap t none, ty, pos, af, none⟩ w (fun v w' => ∃ g, g = w.heap.size ∧ v = .map (some g) ∧ MpW w' g [] ∧ Ch [] w w') := by
  refine ⟨rfl, .map (some w.heap.size), w.alloc (.map #[] 0), ?_, _, rfl, rfl, ⟨#[], 0, heap_alloc_new _ _, MapKept.stamped_empty 0, rfl⟩, ch_alloc _ _⟩
  simp [execOp, Instr.makeMap]
theorem Hold.newMW {w0 w w' : World} {F0 : List Nat} {Γ : List Rs} {g : Nat} {m : List KV} (H : Hold w0 F0 w Γ) (e : g = w.heap.size) (h : MpW w' g m) (c : Ch [] w w') : Hold w0 F0 w' (Γ ++ [rMW g m]) :=
  H.new (r := rMW g m) ⟨rfl, h⟩ (by simp) (fun k hk => by rw [List.mem_singleton.1 hk, e]; exact Nat.le_refl _) c
theorem Hold.mpw {w0 w : World} {F0 : List Nat} {Γ : List Rs} {g : Nat} {m : List KV} (H : Hold w0 F0 w Γ) (i : Nat) (hi : Γ[i]? = some (rMW g m)) : MpW w g m := let ⟨_, h⟩ := H.res i hi; h.2
theorem Hold.setMW {w0 w w' : World} {F0 : List Nat} {Γ Δ : List Rs} {g : Nat} {f f' : List KV} (H : Hold w0 F0 w Γ) (i : Nat) (hi : Γ[i]? = some (rMW g f)) (h : MpW w' g f') (c : Ch [g] w w') (e : Γ.set i (rMW g f') = Δ) : Hold w0 F0 w' Δ := by
  obtain ⟨F, hp, n, s, K⟩ := H.pick i hi
  obtain ⟨rfl, _⟩ := hp
  exact K w' (rMW g f') [g] Δ ⟨rfl, h⟩ (Turn.own (by simp) (fun k hk => hk) c) e
/-- 'm[k]', one value. -/
theorem lkp1 {t kt et : TypeId} {x y : Operand} {g : Nat} {m : List KV} {a : ByteArray} {z : Value} {sz by_ : Nat} (ht : P.underlying t = some (.map kt et)) (hk : P.underlying kt = some .string) (hi : TI P et z sz by_) (hx : ev ρ x = .map (some g)) (hy : ev ρ y = .string a) (hM : MpW w g m) :
    Rn P ρ ⟨d, .lookup t x y false, ty, pos, af, none⟩ w ((lookS m a).getD z) := by
  refine ⟨rfl, fun w' c => ?_⟩
  obtain ⟨es, clock, hb, _, he⟩ := hM.t c
  obtain ⟨i0, hi0, hz, _, _⟩ := info_parts hi
  have hck : (Instr.checkKey es.isEmpty 10000 kt (.string a)).run P w' = .ok () w' := MapKept.run_checkKey (k := .string a) hk (by simp [MapKept.IsKey]) _ 9999
  rcases findNow_str es.toList m a 0 he with ⟨h1, h2⟩ | ⟨j, v, h1, h2⟩
  · simp [execOp, Instr.lookup, hx, hy, run_underlying ht, MapKept.run_getObj_map hb, hck, MapKept.run_findKey hk h2, h1, zeroValue, typeInfo, hi0, hz, run_program]
  · simp [execOp, Instr.lookup, hx, hy, run_underlying ht, MapKept.run_getObj_map hb, hck, MapKept.run_findKey hk h2, h1]
/-- 'm[k] = v'. -/
theorem xmuw {t kt et : TypeId} {x y z : Operand} {g : Nat} {m : List KV} {a : ByteArray} {v : Value} (ht : P.underlying t = some (.map kt et)) (hk : P.underlying kt = some .string) (hx : ev ρ x = .map (some g)) (hy : ev ρ y = .string a) (hz : ev ρ z = v) (hM : MpW w g m) :
    Ex0 P ρ ⟨d, .mapUpdate t x y z, ty, pos, af, none⟩ w (fun w' => MpW w' g (updS m a v) ∧ Ch [g] w w') := by
  obtain ⟨es, clock, hb, hs, he⟩ := hM
  have hck : (Instr.checkKey false 10000 kt (.string a)).run P w = .ok () w := MapKept.run_checkKey (k := .string a) hk (by simp [MapKept.IsKey]) _ 9999
  have hlt : g < w.heap.size := (Array.getElem?_eq_some_iff.1 hb).1
  rcases find_full es.toList m a 0 he with ⟨h1, h2, h3, h4, h5⟩ | ⟨j, u, h1, h2, h3, h4, e, h5, h6⟩
  · refine ⟨rfl, { w with heap := w.heap.setIfInBounds g (.map (es.push { key := .string a, val := v, born := clock }) (clock + 1)) }, ?_, ⟨es.push { key := .string a, val := v, born := clock }, clock + 1, by simp [hlt], MapKept.stamped_push hs h5, ?_⟩, ch_setObj⟩
    · simp [execOp, Instr.mapUpdate, hx, hy, hz, run_underlying ht, MapKept.run_getObj_map hb, hck, MapKept.run_findKey hk h2, MapKept.run_setObj_map _ hb]
    · rw [h4]; unfold encS at he ⊢; simp [he]
  · have h5' : es[j]? = some e := by simpa using h5
    have hkt : (Instr.keyThatStays (((es[0 + j]?).map (·.key)).getD (.string a)) (.string a)).run P w = .ok (.string a) w := by
      rw [Nat.zero_add, h5', Option.map_some, Option.getD_some, h6]
      exact MapKept.run_keyThatStays (d := .string) trivial
    refine ⟨rfl, { w with heap := w.heap.setIfInBounds g (.map (es.modify (0 + j) fun e => { e with key := .string a, val := v }) clock) }, ?_, ⟨es.modify j fun e => { e with key := .string a, val := v }, clock, by simp [hlt], ?_, ?_⟩, ch_setObj⟩
    · simp only [execOp, Instr.mapUpdate, hx, hy, hz, Sem.run_bind, run_underlying ht, Result.andThen_ok, MapKept.run_getObj_map hb, hck, MapKept.run_findKey hk h2, hkt, MapKept.run_setObj_map _ hb]
      simp
    · refine MapKept.stamped_modify hs _ _ (fun _ _ => rfl) (fun x hx hx' => ?_)
      rw [h5'] at hx'
      injection hx' with hx'
      subst hx'; exact h6.symm
    · rw [h4]; exact encS_set he h5' _ (fun e => ⟨rfl, rfl⟩)
/-- 'delete(m, k)'. -/
theorem xdel {t kt et : TypeId} {x y : Operand} {g : Nat} {m : List KV} {a : ByteArray} {tt : Array TypeId} (ht : P.underlying t = some (.map kt et)) (hk : P.underlying kt = some .string) (htt : tt[0]? = some t) (hx : ev ρ x = .map (some g)) (hy : ev ρ y = .string a) (hM : MpW w g m) :
    Ex P ρ ⟨d, .call ⟨.builtin .delete, #[x, y], tt⟩, ty, pos, af, none⟩ w (fun v w' => v = .tuple #[] ∧ MpW w' g (delS m a) ∧ Ch [g] w w') := by
  obtain ⟨es, clock, hb, hs, he⟩ := hM
  have hck : (Instr.checkKey es.isEmpty 10000 kt (.string a)).run P w = .ok () w := MapKept.run_checkKey (k := .string a) hk (by simp [MapKept.IsKey]) _ 9999
  have hlt : g < w.heap.size := (Array.getElem?_eq_some_iff.1 hb).1
  rcases find_full es.toList m a 0 he with ⟨h1, h2, h3, h4, h5⟩ | ⟨j, u, h1, h2, h3, h4, e, h5, h6⟩
  · refine ⟨rfl, .tuple #[], { w with heap := w.heap.setIfInBounds g (.map es clock) }, ?_, rfl, ⟨es, clock, by simp [hlt], hs, by rw [h3]; exact he⟩, ch_setObj⟩
    simp [execOp, resolve, invoke, builtin, hx, hy, Builtin.delete_, htt, run_underlying ht, MapKept.run_getObj_map hb, hck, MapKept.run_findKey hk h2, MapKept.run_setObj_map _ hb]
  · refine ⟨rfl, .tuple #[], { w with heap := w.heap.setIfInBounds g (.map (es.eraseIdxIfInBounds (0 + j)) clock) }, ?_, rfl, ⟨es.eraseIdxIfInBounds j, clock, by simp [hlt], MapKept.stamped_erase hs _, ?_⟩, ch_setObj⟩
    · simp [execOp, resolve, invoke, builtin, hx, hy, Builtin.delete_, htt, run_underlying ht, MapKept.run_getObj_map hb, hck, MapKept.run_findKey hk h2, MapKept.run_setObj_map _ hb]
    · have hj : j < es.size := by
        have := (List.getElem?_eq_some_iff.1 h5).1
        simpa using this
      rw [h3, Array.eraseIdxIfInBounds, dif_pos hj, Array.toList_eraseIdx]
      exact encS_erase he j
/-- A map being ranged over. -/
def Cur (es : Array MapEntry) (seen : Array Nat) (c0 clock : Nat) : Option KV → Prop
  | none => True
  | some p => c0 = clock ∧ ∃ (e : MapEntry) (seen0 : Array Nat), seen = seen0.push e.born ∧ e ∈ es.toList ∧ e.key = .string p.1 ∧ e.val = p.2
def MpR (w : World) (g r : Nat) (m rest : List KV) (cu : Option KV) : Prop := ∃ es clock since seen c0, w.heap[g]? = some (.map es clock) ∧ MapKept.Stamped es clock ∧ encS es.toList m ∧ w.heap[r]? = some (.mapIter (some g) since seen c0) ∧ (∀ x, x ∈ es.toList → x.born < since) ∧ since ≤ c0 ∧ since ≤ clock ∧ encS (leftOf es seen).toList rest ∧ Cur es seen c0 clock cu
theorem MpR.mw {w : World} {g r : Nat} {m rest : List KV} {cu : Option KV} (h : MpR w g r m rest cu) : MpW w g m := let ⟨es, c, _, _, _, h1, h2, h3, _⟩ := h; ⟨es, c, h1, h2, h3⟩
def rMR (g r : Nat) (m rest : List KV) (cu : Option KV) : Rs where
  P w F := F = [g, r] ∧ MpR w g r m rest cu
  mv := fun hm h => ⟨h.1, by
    obtain ⟨es, c, since, seen, c0, h1, h2, h3, h4, h5⟩ := h.2
    exact ⟨es, c, since, seen, c0, (hm g (by rw [h.1]; simp)).trans h1, h2, h3, (hm r (by rw [h.1]; simp)).trans h4, h5⟩⟩
  lt := fun h k hk => by
    obtain ⟨es, c, since, seen, c0, h1, h2, h3, h4, h5⟩ := h.2
    rw [h.1] at hk
    rcases List.mem_cons.1 hk with rfl | hk
    · exact (Array.getElem?_eq_some_iff.1 h1).1
    · rw [List.mem_singleton.1 hk]; exact (Array.getElem?_eq_some_iff.1 h4).1
theorem xrng {t kt et : TypeId} {x : Operand} {g : Nat} {m : List KV} (ht : P.underlying t = some (.map kt et)) (hx : ev ρ x = .map (some g)) (hM : MpW w g m) :
    Ex P ρ ⟨d, .range t x, ty, pos, af, none⟩ w (fun v w' => ∃ r, r = w.heap.size ∧ v = .pointer (some ⟨r, 0, none⟩) ∧ MpR w' g r m m none ∧ Ch [] w w') := by
  obtain ⟨es, clock, hb, hs, he⟩ := hM
  have hlt : g < w.heap.size := (Array.getElem?_eq_some_iff.1 hb).1
  refine ⟨rfl, _, _, ?_, _, rfl, rfl, ⟨es, clock, clock, #[], clock, (heap_alloc_old w _ hlt).trans hb, hs, he, heap_alloc_new _ _, ((MapKept.stamped_iff es clock).1 hs).1, Nat.le_refl _, Nat.le_refl _, ?_, trivial⟩, ch_alloc _ _⟩
  · simp [execOp, hx, run_range_map w t kt et g es clock ht hb]
  · have : leftOf es #[] = es := by unfold leftOf; exact Array.filter_eq_self.2 (fun x hx => by simp)
    rw [this]; exact he
theorem Hold.toR {w0 w w' : World} {F0 : List Nat} {Γ Δ : List Rs} {g r : Nat} {m rest : List KV} (H : Hold w0 F0 w Γ) (i : Nat) (hi : Γ[i]? = some (rMW g m)) (e : r = w.heap.size) (h : MpR w' g r m rest none) (c : Ch [] w w') (he : Γ.set i (rMR g r m rest none) = Δ) : Hold w0 F0 w' Δ := by
  obtain ⟨F, hp, n, s, K⟩ := H.pick i hi
  obtain ⟨rfl, hM⟩ := hp
  have hlt := hM.lt
  exact K w' (rMR g r m rest none) [g, r] Δ ⟨rfl, h⟩ ⟨by simp; omega, fun k hk => by rcases List.mem_cons.1 hk with rfl | hk; exact .inl (by simp); exact .inr (by rw [List.mem_singleton.1 hk, e]; exact Nat.le_refl _), c.mono (fun k hk _ => by cases hk)⟩ he
theorem Hold.ofR {w0 w : World} {F0 : List Nat} {Γ Δ : List Rs} {g r : Nat} {m rest : List KV} {cu : Option KV} (H : Hold w0 F0 w Γ) (i : Nat) (hi : Γ[i]? = some (rMR g r m rest cu)) (he : Γ.set i (rMW g m) = Δ) : Hold w0 F0 w Δ := by
  obtain ⟨F, hp, n, s, K⟩ := H.pick i hi
  obtain ⟨rfl, hM⟩ := hp
  exact K w (rMW g m) [g] Δ ⟨rfl, hM.mw⟩ (Turn.own (by simp) (fun k hk => by simp at hk; simp [hk]) (Ch.refl _ _)) he
theorem Hold.mpr {w0 w : World} {F0 : List Nat} {Γ : List Rs} {g r : Nat} {m rest : List KV} {cu : Option KV} (H : Hold w0 F0 w Γ) (i : Nat) (hi : Γ[i]? = some (rMR g r m rest cu)) : MpR w g r m rest cu := let ⟨_, h⟩ := H.res i hi; h.2
theorem Hold.setMR {w0 w w' : World} {F0 : List Nat} {Γ Δ : List Rs} {g r : Nat} {m rest rest' : List KV} {cu cu' : Option KV} (H : Hold w0 F0 w Γ) (i : Nat) (hi : Γ[i]? = some (rMR g r m rest cu)) (h : MpR w' g r m rest' cu') (c : Ch [r] w w') (he : Γ.set i (rMR g r m rest' cu') = Δ) : Hold w0 F0 w' Δ := by
  obtain ⟨F, hp, n, s, K⟩ := H.pick i hi
  obtain ⟨rfl, _⟩ := hp
  exact K w' (rMR g r m rest' cu') [g, r] Δ ⟨rfl, h⟩ (Turn.own n (fun k hk => hk) (c.mono (fun k hk _ => by simp at hk; simp [hk]))) he
theorem filter_one : ∀ (A : List MapEntry) (e : MapEntry) (B : List MapEntry), ((A ++ e :: B).map (·.born)).Nodup → (A ++ e :: B).filter (fun x => x.born != e.born) = A ++ B
  | [], e, B, h => by
    simp only [List.nil_append, List.map_cons, List.nodup_cons] at h
    simp only [List.nil_append, List.filter_cons, bne_self_eq_false]
    exact List.filter_eq_self.2 fun x hx => by simpa using fun q => h.1 (by rw [← q]; exact List.mem_map_of_mem hx)
  | a :: A, e, B, h => by
    simp only [List.cons_append, List.map_cons, List.nodup_cons] at h
    have hne : a.born ≠ e.born := fun q => h.1 (by rw [q]; simp)
    simp only [List.cons_append, List.filter_cons, bne_iff_ne, ne_eq, hne, not_false_eq_true, if_true]
    rw [filter_one A e B h.2]
theorem left_push (es : Array MapEntry) (seen : Array Nat) (b : Nat) : (leftOf es (seen.push b)).toList = (leftOf es seen).toList.filter (fun x => x.born != b) := by
  simp only [leftOf, Array.toList_filter, List.filter_filter]
  apply List.filter_congr
  intro x _
  simp [Bool.and_comm, bne]
  by_cases h : x.born = b <;> simp [h]
/-- The next of a map, or its end. -/
theorem xnext {α : Type} {f : α → KV} {x : Operand} {g r : Nat} {m : List KV} {R : List α} {cu : Option KV} (hx : ev ρ x = .pointer (some ⟨r, 0, none⟩)) (hM : MpR w g r m (R.map f) cu) :
    Ex P ρ ⟨d, .next x false, ty, pos, af, none⟩ w (fun v w' => (v = .tuple #[.bool false] ∧ R = [] ∧ w' = w) ∨ ∃ y R1 R2, R = R1 ++ y :: R2 ∧ v = .tuple #[.bool true, .string (f y).1, (f y).2] ∧ MpR w' g r m ((R1 ++ R2).map f) (some (f y)) ∧ Ch [r] w w') := by
  obtain ⟨es, clock, since, seen, c0, h1, h2, h3, h4, h5, h6, h7, h8, -⟩ := hM
  have hne : g ≠ r := fun e => by rw [e, h4] at h1; cases h1
  have hrl : r < w.heap.size := (Array.getElem?_eq_some_iff.1 h4).1
  rcases run_next_at (P := P) w ty r g since c0 seen es clock h4 h1 h5 h6 with ⟨hz, hr⟩ | ⟨e, he, w1, hw1, hr⟩
  · refine ⟨rfl, _, _, by simp only [execOp, hx, Sem.run_bind, hr, Result.andThen_ok, Sem.run_pure], .inl ⟨rfl, ?_, rfl⟩⟩
    have : (leftOf es seen).toList = [] := List.eq_nil_of_length_eq_zero (by simpa using hz)
    rw [this] at h8
    unfold encS at h8
    exact List.map_eq_nil_iff.1 (List.map_eq_nil_iff.1 h8.symm)
  · refine ⟨rfl, .tuple #[.bool true, e.key, e.val], setBlock w1 r (.mapIter (some g) since (seen.push e.born) clock), by simp only [execOp, hx, Sem.run_bind, hr, Result.andThen_ok, Sem.run_pure], .inr ?_⟩
    obtain ⟨A, B, hAB⟩ := List.append_of_mem he
    have hnd : ((leftOf es seen).toList.map (·.born)).Nodup := by
      have := ((MapKept.stamped_iff es clock).1 h2).2.1
      refine this.sublist (List.Sublist.map _ ?_)
      unfold leftOf; rw [Array.toList_filter]; exact List.filter_sublist
    have hL := left_push es seen e.born
    rw [hAB] at h8 hnd hL
    rw [filter_one A e B hnd] at hL
    unfold encS at h8
    simp only [List.map_map, List.map_append, List.map_cons] at h8
    obtain ⟨R1, r2, rfl, e1, e2⟩ := List.map_eq_append_iff.1 h8.symm
    obtain ⟨y, R2, rfl, e3, e4⟩ := List.map_eq_cons_iff.1 e2
    simp only [Function.comp, Prod.mk.injEq] at e3
    have hw1h : w1.heap = w.heap := by rcases hw1 with rfl | rfl <;> rfl
    have hw1r : w1.os = w.os ∧ w1.tape = w.tape ∧ w1.output = w.output := by rcases hw1 with rfl | rfl <;> exact ⟨rfl, rfl, rfl⟩
    have hh : ∀ k, k ≠ r → (setBlock w1 r (.mapIter (some g) since (seen.push e.born) clock)).heap[k]? = w.heap[k]? := fun k hk => by
      simp [setBlock, Array.getElem?_setIfInBounds, Ne.symm hk, hw1h]
    refine ⟨y, R1, R2, rfl, by rw [e3.1, e3.2], ⟨es, clock, since, seen.push e.born, clock, (hh g hne).trans h1, h2, h3, ?_, h5, h7, h7, ?_, rfl, e, seen, rfl, ?_, e3.1.symm, e3.2.symm⟩, ?_⟩
    · simp [setBlock, hw1h, hrl]
    · rw [hL]; unfold encS; simp only [List.map_map, List.map_append]; rw [← e1, ← e4]
    · have : e ∈ (leftOf es seen).toList := he
      unfold leftOf at this
      rw [Array.toList_filter] at this
      exact (List.mem_filter.1 this).1
    · exact ⟨hw1r.1, hw1r.2.1, hw1r.2.2, by simp [setBlock, hw1h], fun k hk hn => hh k (by simpa using hn)⟩
theorem xent {x : Operand} {g r : Nat} {m rest : List KV} {a : KV} (hx : ev ρ x = .pointer (some ⟨r, 0, none⟩)) (hM : MpR w g r m rest (some a)) : Rn P ρ ⟨d, .entry x, ty, pos, af, none⟩ w (.tuple #[.string a.1, a.2]) := by
  refine ⟨rfl, fun w' c => ?_⟩
  obtain ⟨es, clock, since, seen, c0, h1, h2, h3, h4, h5, h6, h7, h8, rfl, e, seen0, rfl, he, e1, e2⟩ := hM
  have hr' := (c.blk r (Array.getElem?_eq_some_iff.1 h4).1 (by simp)).trans h4
  have hg' := (c.blk g (Array.getElem?_eq_some_iff.1 h1).1 (by simp)).trans h1
  have := run_entry_at (P := P) w' r g since seen0 es c0 e hr' hg' he ((MapKept.stamped_iff es c0).1 h2).2.1
  simp only [execOp, hx, Sem.run_bind, this, Result.andThen_ok, Sem.run_pure, e1, e2]
end
end Go.Eng

namespace Go.Eng
set_option linter.unusedVariables false
set_option linter.unusedSimpArgs false
/-- Several resources as one. -/
def rL (Γ : List Rs) : Rs where
  P w F := Hs w Γ F
  mv := fun hm h => Hs.mv hm h
  lt := fun h => Hs.lt h
section
variable {w0 w w' : World} {F0 : List Nat} {Γ Δ : List Rs} {i : Nat}
theorem Hold.rLi (H : Hold w0 F0 w (Γ ++ Δ)) : Hold w0 F0 w (rL Γ :: Δ) := by
  obtain ⟨F, h, T⟩ := H
  obtain ⟨F1, F2, rfl, h1, h2⟩ := h.split
  exact ⟨F1 ++ F2, ⟨F1, F2, rfl, h1, h2⟩, T⟩
theorem Hold.rLe (H : Hold w0 F0 w (rL Γ :: Δ)) : Hold w0 F0 w (Γ ++ Δ) := by
  obtain ⟨F, ⟨F1, F2, rfl, h1, h2⟩, T⟩ := H
  exact ⟨F1 ++ F2, Hs.app h1 h2, T⟩
/-- A row of numbers that is read, its blocks one's own. -/
def rQ (v : Value) (xs : List Int) : Rs where
  P w F := (Kd.int .i64).R w F v xs
  mv := fun {w w' F} hm h => by
    obtain ⟨A, c, G, Fs, cs, rfl, hc, rfl, hG, he, hr⟩ := h
    refine ⟨A, c, G, Fs, cs, rfl, hc, rfl, fun k hk => ?_, he.imp (fun _ _ _ _ h => h), fun j u hu => ?_⟩
    · have h1 := hm k (List.mem_append_left _ hk)
      have h2 := hG k hk
      rw [Array.getElem?_eq_getElem h2] at h1
      exact (Array.getElem?_eq_some_iff.1 h1).1
    · obtain ⟨ad, e1, e2, e3⟩ := hr j u hu
      refine ⟨ad, e1, e2, ?_⟩
      rw [World.cell?_of_block (w := w) (by rw [add_block]; exact hm _ (List.mem_append_left _ e2))]
      exact e3
  lt := fun h => Kd.R.lt h
theorem R_wid {w : World} {F F' : List Nat} {v : Value} {xs : List Int} (h : (Kd.int .i64).R w F' v xs) (hs : ∀ k, k ∈ F' → k ∈ F) (hl : ∀ k, k ∈ F → k < w.heap.size) : (Kd.int .i64).R w F v xs := by
  obtain ⟨A, c, G, Fs, cs, rfl, hc, rfl, hG, he, hr⟩ := h
  obtain rfl := els_int_inv (w := w) (Els.flat (flat_int _) he)
  exact ⟨A, c, F, [], _, rfl, hc, by simp, hl, (els_int (w := w) xs).imp (fun _ _ _ _ h => Kd.own _ h), fun j u hu => by
    obtain ⟨ad, e1, e2, e3⟩ := hr j u hu
    exact ⟨ad, e1, hs _ (List.mem_append_left _ e2), e3⟩⟩
/-- Rows of numbers that are kept. -/
def rPool (e : TypeId) (l : List (Value × List Int)) : Rs := rL (l.map fun x => rQ x.1 x.2)
theorem Hs.mem {r : Rs} : ∀ {Γ : List Rs} {F : List Nat}, Hs w Γ F → r ∈ Γ → ∃ G, r.P w G ∧ ∀ k, k ∈ G → k ∈ F
  | [], _, _, hr => by cases hr
  | a :: Γ, _, ⟨F1, F2, rfl, h1, h2⟩, hr => by
    rcases List.mem_cons.1 hr with rfl | hr
    · exact ⟨F1, h1, fun k hk => List.mem_append_left _ hk⟩
    · obtain ⟨G, g1, g2⟩ := Hs.mem h2 hr
      exact ⟨G, g1, fun k hk => List.mem_append_right _ (g2 k hk)⟩
theorem Hold.kept {e : TypeId} {l : List (Value × List Int)} {v : Value} {xs : List Int} (H : Hold w0 F0 w Γ) (i : Nat) (hi : Γ[i]? = some (rPool e l)) (hm : (v, xs) ∈ l) : ∃ F, (Kd.int .i64).R w F v xs := by
  obtain ⟨F, hp⟩ := H.res i hi
  obtain ⟨G, g, _⟩ := Hs.mem (show Hs w (l.map fun x => rQ x.1 x.2) F from hp) (List.mem_map.2 ⟨(v, xs), hm, rfl⟩)
  exact ⟨G, g⟩
theorem Hold.keepC {e e2 : TypeId} {l : List (Value × List Int)} {v : Value} {xs : List Int} (u : Nat) (hu : u ≤ xs.length) (H : Hold w0 F0 w (rR (Kd.int .i64) e2 v xs :: rPool e l :: Γ)) : Hold w0 F0 w (rPool e ((slv v 0 u 1, xs.take u) :: l) :: Γ) :=
  Hold.rLi (Γ := rQ (slv v 0 u 1) (xs.take u) :: l.map fun x => rQ x.1 x.2) (by
    obtain ⟨F, ⟨F1, _, rfl, h1, F2, F3, rfl, h2, h3⟩, T⟩ := H
    have h1 : (Kd.int .i64).W e2 w F1 v xs := h1
    obtain ⟨F', hs, hR⟩ := Kd.R.sl (Kd.W.R h1) 0 u (Nat.zero_le _) hu
    rw [List.drop_zero] at hR
    exact ⟨F1 ++ (F2 ++ F3), ⟨F1, F2 ++ F3, rfl, R_wid hR hs (Kd.W.lt h1), Hs.app h2 h3⟩, T⟩)
theorem Hold.pool0 (e : TypeId) (H : Hold w0 F0 w Γ) : Hold w0 F0 w (rPool e [] :: Γ) := Hold.rLi (Γ := []) H
end
section
variable {P : Program} {n : Nat} {k : List It} {Qf : Exit → Act → World → Prop} {ρ : Fr} {ds : List Deferred} {w : World} {ops : Array Oper} {rest : List Oper} {d : Option Nat} {ty : TypeId} {pos : String} {af : Array Edge}
/-- A call of a value with arguments bound to it. -/
theorem clb {x : Operand} {f : FuncId} {fs cap : List Value} {xs : Array Operand} {vs : List Value} {ts : Array TypeId} {Φ : Value → World → Prop} (hx : ev ρ x = .func (.func f) fs.toArray cap.toArray) (hg : Goes P f) (hxs : xs.toList.map (ev ρ) = vs) (hc : Ret P f (fs ++ vs ++ cap).toArray w Φ)
    (h : ∀ v w', Φ v w' → L P n ops rest k Qf (updo ρ d v) ds w') :
    L P n ops (⟨d, .call ⟨.value x, xs, ts⟩, ty, pos, af, none⟩ :: rest) k Qf ρ ds w := by
  refine opc (w' := w) (f := f) (args := (fs ++ vs ++ cap).toArray) rfl ?_ hc h
  have := arr hxs
  simp [execOp, resolve, Deferred.ofValue, invoke, hx, hg _ w, this]
end
section
variable {P : Program} {n : Nat} {ρ : Fr} {ds : List Deferred} {w : World} {ops : Array Oper} {K : Fr → World → Prop} {Kp : List PanicEntry → World → Prop} {S' : World → Prop} {fuel : Nat} {listed : Array Bool}
theorem eucb {i : Nat} {d : Option Nat} {ty : TypeId} {pos : String} {af : Array Edge} {x : Operand} {f : FuncId} {fs cap : List Value} {xs : Array Operand} {vs : List Value} {ts : Array TypeId} {Φ : Value → World → Prop} (hi : ops[i]? = some ⟨d, .call ⟨.value x, xs, ts⟩, ty, pos, af, none⟩) (hx : ev ρ x = .func (.func f) fs.toArray cap.toArray) (hg : Goes P f) (hxs : xs.toList.map (ev ρ) = vs) (hc : Ret P f (fs ++ vs ++ cap).toArray w Φ)
    (h : ∀ v w', Φ v w' → ((listed.setIfInBounds i true).all id = true ∨ S' w') ∧ De P n ops K Kp S' fuel (listed.setIfInBounds i true) (updo ρ d v) ds w') : Ue P n ops K Kp S' fuel listed i ρ ds w := by
  refine eucr hi rfl ?_ hc h
  have := arr hxs
  simp [execOp, resolve, Deferred.ofValue, invoke, hx, hg _ w, this]
end
end Go.Eng
namespace Go.Proofs.YtanfhikfeabidaaGreatDoor
open Go Go.Eng
set_option maxRecDepth 100000
set_option maxHeartbeats 4000000
set_option linter.unusedVariables false
set_option linter.unusedSimpArgs false
def blkAt (X : List Int) (b : Int) : List Int := (X.take (b.toNat * 64 + 64)).drop (b.toNat * 64)
theorem blkAt_get (X : List Int) (b : Int) (i : Nat) : (blkAt X b)[i]? = if i < 64 then X[b.toNat * 64 + i]? else none := by
  rw [blkAt, List.getElem?_drop, List.getElem?_take]
  by_cases h : i < 64
  · rw [if_pos h, if_pos (by omega)]
  · rw [if_neg h, if_neg (by omega)]
theorem setl_get {X : List Int} {x : Wr} {c j : Nat} (h64 : x.2.length = 64) (hb : x.1.toNat * 64 + 64 ≤ X.length) (hc : c ≤ 64) : (setl X x c)[j]? = if x.1.toNat * 64 ≤ j ∧ j < x.1.toNat * 64 + c then x.2[j - x.1.toNat * 64]? else X[j]? := by
  have l2 : (x.2.take c).length = c := by simp; omega
  have l1 : (X.take (x.1.toNat * 64)).length = x.1.toNat * 64 := by simp; omega
  unfold setl
  rw [l2]
  by_cases h1 : j < x.1.toNat * 64
  · rw [if_neg (by omega), List.append_assoc, List.getElem?_append_left (by omega), List.getElem?_take, if_pos h1]
  · by_cases h2 : j < x.1.toNat * 64 + c
    · rw [if_pos ⟨by omega, h2⟩, List.append_assoc, List.getElem?_append_right (by omega), l1, List.getElem?_append_left (by omega), List.getElem?_take, if_pos (by omega)]
    · rw [if_neg (by omega), List.getElem?_append_right (by simp only [List.length_append, l1, l2]; omega)]
      simp only [List.length_append, l1, l2, List.getElem?_drop]
      congr 1; omega
theorem blk_setl_64 {X : List Int} {x : Wr} {b : Int} (h64 : x.2.length = 64) (hb : x.1.toNat * 64 + 64 ≤ X.length) (h0 : 0 ≤ x.1) (hb0 : 0 ≤ b) : blkAt (setl X x 64) b = if x.1 = b then x.2 else blkAt X b := by
  apply List.ext_getElem?
  intro i
  rw [blkAt_get]
  by_cases e : x.1 = b
  · rw [if_pos e]; subst e
    by_cases hi : i < 64
    · rw [if_pos hi, setl_get h64 hb (Nat.le_refl _), if_pos (by omega)]; congr 1; omega
    · rw [if_neg hi, List.getElem?_eq_none (by omega)]
  · rw [if_neg e, blkAt_get]
    by_cases hi : i < 64
    · rw [if_pos hi, if_pos hi, setl_get h64 hb (Nat.le_refl _), if_neg (by omega)]
    · rw [if_neg hi, if_neg hi]
theorem blk_st {xs : List Int} {ps : List Wr} (V : VD xs ps) {b : Int} (hb0 : 0 ≤ b) : ∀ k, k ≤ ps.length → blkAt (stN xs ps (fun _ => 64) k) b = readD xs (ps.take k) b := by
  intro k
  induction k with
  | zero => intro _; rfl
  | succ k ih =>
    intro hk
    have hw := V.ok _ (List.getElem_mem hk)
    have hb := V.at (b := ps[k].1) ⟨hw.1, hw.2.1⟩
    rw [stN_succ hk, List.take_succ_eq_append_getElem hk, readD_app, blk_setl_64 hw.2.2 (by rw [stN_len V]; exact hb) hw.1 hb0, ih (by omega)]
theorem VD.st {xs : List Int} {ps : List Wr} {f : Nat → Nat} (V : VD xs ps) : VD (stN xs ps f ps.length) [] := by
  have hl := stN_len (f := f) V ps.length
  have hb : blks (stN xs ps f ps.length) = blks xs := by unfold blks; rw [hl]
  exact ⟨by rw [hl]; exact V.mod, by rw [hb]; exact V.one, by rw [hb]; exact V.top, by simp, by simp⟩
theorem blks_st {xs : List Int} {ps : List Wr} {f : Nat → Nat} (V : VD xs ps) : blks (stN xs ps f ps.length) = blks xs := by unfold blks; rw [stN_len V]
/-- A disk of n blocks at work, by what it reads as. -/
structure Dk (n : Int) (xs : List Int) (ps : List Wr) (rd : Int → List Int) : Prop where
  V : VD xs ps
  np : ps.length ≤ 256
  nb : blks xs = n
  rd : ∀ b, 0 ≤ b → readD xs ps b = rd b
def upR (rd : Int → List Int) (b : Int) (d : List Int) : Int → List Int := fun c => if c = b then d else rd c
theorem Dk.sync {n : Int} {xs : List Int} {ps : List Wr} {rd : Int → List Int} (D : Dk n xs ps rd) : Dk n (stN xs ps (fun _ => 64) ps.length) [] rd :=
  ⟨D.V.st, by simp, (blks_st D.V).trans D.nb, fun b hb => by
    have := blk_st D.V hb ps.length (Nat.le_refl _)
    rw [List.take_length] at this
    exact (show readD _ [] b = blkAt _ b from rfl).trans (this.trans (D.rd b hb))⟩
theorem Dk.put {n : Int} {xs : List Int} {ps : List Wr} {rd : Int → List Int} {b : Int} {d : List Int} (D : Dk n xs ps rd) (h : ps.length < 256) (hb : 0 ≤ b ∧ b < n) (hd : d.length = 64) : Dk n xs (ps ++ [(b, d)]) (upR rd b d) :=
  ⟨⟨D.V.mod, D.V.one, D.V.top, by simp; omega, fun x hx => by
    rcases List.mem_append.1 hx with hx | hx
    · exact D.V.ok x hx
    · rw [List.mem_singleton.1 hx, D.nb]; exact ⟨hb.1, hb.2, hd⟩⟩, by simp; omega, D.nb, fun c hc => by
    rw [readD_app, upR, D.rd c hc]
    by_cases e : c = b
    · rw [if_pos e, if_pos e.symm]
    · rw [if_neg e, if_neg (fun q => e q.symm)]⟩
theorem Dk.len {n : Int} {xs : List Int} {ps : List Wr} {rd : Int → List Int} (D : Dk n xs ps rd) (b : Int) (hb : 0 ≤ b ∧ b < n) : (rd b).length = 64 := by
  rw [← D.rd b hb.1]
  rcases hy : yng ps b with _ | k
  · rw [(yng_read xs b ps).1 hy]
    have := D.V.at (b := b) ⟨hb.1, by rw [D.nb]; exact hb.2⟩
    simp; omega
  · obtain ⟨i, hi, _, _, e⟩ := (yng_read xs b ps).2 k hy
    rw [e]; exact (D.V.ok _ (List.getElem_mem hi)).2.2
def plL (gp : Nat) (dv wv : Value) (mg : Nat) (xs : List Int) (ps : List Wr) : List Rs := [rB gp 98 [dv, wv, .map (some mg)], rR u8 5 dv xs, rR kW 100 wv ps, rM mg (yng ps)]
/-- The platter at block gp. -/
def rPl (gp : Nat) (n : Int) (rd : Int → List Int) : Rs := exR (fun x : Value × Value × Nat × List Int × List Wr => rF (Dk n x.2.2.2.1 x.2.2.2.2 rd) (rL (plL gp x.1 x.2.1 x.2.2.1 x.2.2.2.1 x.2.2.2.2)))
section
variable {w0 w w' : World} {F0 : List Nat} {Γ Δ : List Rs} {gp : Nat} {n : Int} {rd : Int → List Int}
theorem Hold.plE (H : Hold w0 F0 w (rPl gp n rd :: Δ)) : ∃ dv wv mg xs ps, Dk n xs ps rd ∧ Hold w0 F0 w ([rB gp 98 [dv, wv, .map (some mg)], rR u8 5 dv xs, rR kW 100 wv ps, rM mg (yng ps)] ++ Δ) := by
  obtain ⟨⟨dv, wv, mg, xs, ps⟩, H⟩ := Hold.exe H
  obtain ⟨D, H⟩ := Hold.facte H
  exact ⟨dv, wv, mg, xs, ps, D, Hold.rLe H⟩
theorem Hold.plI {dv wv : Value} {mg : Nat} {xs : List Int} {ps : List Wr} (D : Dk n xs ps rd) (H : Hold w0 F0 w ([rB gp 98 [dv, wv, .map (some mg)], rR u8 5 dv xs, rR kW 100 wv ps, rM mg (yng ps)] ++ Δ)) : Hold w0 F0 w (rPl gp n rd :: Δ) :=
  Hold.exi (r := fun x : Value × Value × Nat × List Int × List Wr => rF (Dk n x.2.2.2.1 x.2.2.2.2 rd) (rL (plL gp x.1 x.2.1 x.2.2.1 x.2.2.2.1 x.2.2.2.2))) (dv, wv, mg, xs, ps) (Hold.facti D (Hold.rLi H))
end
/-- A file that is kept. -/
structure Kf where
  lid : Int
  nm : ByteArray
  sz : Int
  lv : Value
  ls : List Int
def kfV (k : Kf) : Value := .agg #[.int .i64 k.lid, .string k.nm, .int .i64 k.sz, k.lv]
def kfP (k : Kf) : KV := (k.nm, kfV k)
def findK : List Kf → ByteArray → Option Kf
  | [], _ => none
  | k :: l, a => if a = k.nm then some k else findK l a
def delK : List Kf → ByteArray → List Kf
  | [], _ => []
  | k :: l, a => if a = k.nm then l else k :: delK l a
theorem look_kf (l : List Kf) (a : ByteArray) : lookS (l.map kfP) a = (findK l a).map kfV := by
  induction l with
  | nil => rfl
  | cons k l ih => simp only [List.map_cons, kfP, lookS, findK]; split <;> first | rfl | exact ih
theorem del_kf (l : List Kf) (a : ByteArray) : delS (l.map kfP) a = (delK l a).map kfP := by
  induction l with
  | nil => rfl
  | cons k l ih =>
    simp only [List.map_cons, kfP, delS, delK]
    split
    · rfl
    · simp only [List.map_cons, kfP]; rw [← ih]
theorem upd_kf (l : List Kf) (k : Kf) (h : findK l k.nm = none) : updS (l.map kfP) k.nm (kfV k) = (l ++ [k]).map kfP := by
  induction l with
  | nil => rfl
  | cons x l ih =>
    simp only [findK] at h
    split at h
    · cases h
    · rename_i hx
      simp only [List.map_cons, kfP, updS, List.cons_append, hx, if_false]
      rw [ih h]
theorem findK_mem {l : List Kf} {a : ByteArray} {k : Kf} (h : findK l a = some k) : k ∈ l ∧ k.nm = a := by
  induction l with
  | nil => cases h
  | cons x l ih =>
    simp only [findK] at h
    split at h
    · rename_i hx; injection h with h; subst h; exact ⟨List.mem_cons_self, hx.symm⟩
    · exact ⟨List.mem_cons_of_mem _ (ih h).1, (ih h).2⟩
theorem delK_none {l : List Kf} {a : ByteArray} (h : findK l a = none) : delK l a = l := by
  induction l with
  | nil => rfl
  | cons x l ih =>
    simp only [findK] at h
    split at h
    · cases h
    · rename_i hx; simp only [delK, hx, if_false, ih h]
/-- An engine's cells. -/
abbrev eC (s b : Int) (gp gw gd : Nat) (tv : Value) (q a u o : Int) (gl gk : Nat) : List Value := [.pointer (some ⟨gp, 0, none⟩), .int .i64 s, .int .i64 b, .int .i64 (s * b), .int .i64 (tabs s b), .int .i64 (logs s b), .int .i64 (logs s b + s * b), .int .i64 (s * b - 2 * b), .map (some gw), .map (some gd), tv, .int .i64 q, .int .i64 a, .int .i64 u, .int .i64 o, .func (.func 10) #[] [.pointer (some ⟨gl, 0, none⟩), .pointer (some ⟨gk, 0, none⟩)].toArray]
end Go.Proofs.YtanfhikfeabidaaGreatDoor

namespace Go.Proofs.YtanfhikfeabidaaGreatDoor
open Go Go.Eng
set_option maxRecDepth 100000
set_option maxHeartbeats 4000000
set_option linter.unusedVariables false
set_option linter.unusedSimpArgs false
abbrev wr64 (x : Int) : Int := IntKind.i64.wrap x
theorem Run_1 {w : World} {gl gk : Nat} (hB : B w gl 2 [.int .i64 (-1)]) : Ret Tryz.prog 10 #[.pointer (some ⟨gl, 0, none⟩), .pointer (some ⟨gk, 0, none⟩)] w (fun r w' => Ch [] w w') := by
  refine enter Tryz.func10 rfl Tryz.ntmps10 (by rfl) (by rfl) ?_
  have H0 : Hold w [] w [] := Hold.start w
  refine sq (rd mixed (by kernel_rfl) (q (ldb Tryz.underlying2 rfl rfl ((Hold.ch H0).b0 hB) rfl) (q (Rn.cast (v' := .bool false) (bi rfl rfl rfl) rfl) (q (mv rfl) (gnq rfl rfl rfl (gnq rfl rfl rfl (gnq rfl rfl rfl (gnq rfl rfl rfl (gnq rfl rfl rfl (gnq rfl rfl rfl (q (pk rfl rfl) (me ?_))))))))))))
  intro w1 c1
  have H1 : Hold w [] w1 [] := Hold.t H0 c1
  clear H0
  refine cf rfl (sk ?_)
  exact fin0 Tryz.results10 (Hold.ch H1)
theorem op_sync {w : World} {F : List Nat} {ge gp gw gd gl gk mg : Nat} {tv dv wv : Value} {s b qn actv usd opn : Int} {xs : List Int} {ps : List Wr} {rdf : Int → List Int} (h : Hs w [rB ge 60 ((eC s b gp gw gd tv qn actv usd opn gl gk)), rB gp 98 ([dv, wv, .map (some mg)]), rR u8 5 dv xs, rR kW 100 wv ps, rM mg (yng ps), rB gl 2 ([.int .i64 (-1)])] F) (nd : F.Nodup) (hDk : Dk (logs s b + s * b) xs ps rdf) : Ret Tryz.prog 159 #[.pointer (some ⟨ge, 0, none⟩), .func (.func 21) [.pointer (some ⟨gp, 0, none⟩)].toArray [].toArray] w (fun r w' => Hold w F w' [rB ge 60 ((eC s b gp gw gd tv qn actv usd (wr64 (opn + 1)) gl gk)), rB gp 98 ([dv, (.slice none 0 0), .map (some mg)]), rR u8 5 dv (stN xs ps (fun _ => 64) ps.length), rR kW 100 (.slice none 0 0) ([]), rM mg (yng ([])), rB gl 2 ([.int .i64 (-1)])]) := by
  refine enter Tryz.func159 rfl Tryz.ntmps159 (by rfl) (by rfl) ?_
  have H0 : Hold w F w [rB ge 60 ((eC s b gp gw gd tv qn actv usd opn gl gk)), rB gp 98 ([dv, wv, .map (some mg)]), rR u8 5 dv xs, rR kW 100 wv ps, rM mg (yng ps), rB gl 2 ([.int .i64 (-1)])] := Hold.begin h nd
  have b1 : B w ge 60 ((eC s b gp gw gd tv qn actv usd opn gl gk)) := Hold.blk H0 0 rfl
  have b3 : B w gl 2 ([.int .i64 (-1)]) := Hold.blk H0 5 rfl
  refine sq (rg (r (mv rfl) (r (nck rfl) (r (fa Tryz.underlying60 rfl ti1 rfl rfl) (r (ldb Tryz.underlying1 rfl rfl b1 rfl) (clv rfl go10 an (Run_1 b3) ?_))))))
  rintro _ wa ca
  have H1 : Hold w F wa [rB ge 60 ((eC s b gp gw gd tv qn actv usd opn gl gk)), rB gp 98 ([dv, wv, .map (some mg)]), rR u8 5 dv xs, rR kW 100 wv ps, rM mg (yng ps), rB gl 2 ([.int .i64 (-1)])] := Hold.t H0 ca
  clear H0
  clear ca
  have b4 : B wa ge 60 ((eC s b gp gw gd tv qn actv usd opn gl gk)) := Hold.blk H1 0 rfl
  refine re (sq (rg (r (mv rfl) (r (nck rfl) (r (fa Tryz.underlying60 rfl ti2 rfl rfl) (r (ldb Tryz.underlying2 rfl rfl b4 rfl) (r (adw (wr64 (opn + 1)) rfl rfl rfl) (r (nck rfl) (r (fa Tryz.underlying60 rfl ti2 rfl rfl) (ef0 (xst (vs := [.int .i64 (wr64 (opn + 1))]) ti2 rfl rfl (cel1 rfl) b4 rfl (Nat.le_of_ble_eq_true rfl) (one_all rfl)) ?_))))))))))
  rintro w5 ⟨-, b5, c5⟩
  have H2 : Hold w F w5 [rB ge 60 ((eC s b gp gw gd tv qn actv usd (wr64 (opn + 1)) gl gk)), rB gp 98 ([dv, wv, .map (some mg)]), rR u8 5 dv xs, rR kW 100 wv ps, rM mg (yng ps), rB gl 2 ([.int .i64 (-1)])] := Hold.setB H1 0 rfl b5 c5 rfl
  clear H1
  clear b5 c5
  refine re ?_
  refine gen (fun ρ => ρ 1 = .func (.func 21) [.pointer (some ⟨gp, 0, none⟩)].toArray [].toArray ∧ True) ⟨rfl, trivial⟩ ?_
  rintro ρ ⟨z1, -⟩
  have H3 : Hold w F w5 [rB gp 98 ([dv, wv, .map (some mg)]), rR u8 5 dv xs, rR kW 100 wv ps, rM mg (yng ps), rB ge 60 ((eC s b gp gw gd tv qn actv usd (wr64 (opn + 1)) gl gk)), rB gl 2 ([.int .i64 (-1)])] := Hold.re H2 [1, 2, 3, 4, 0, 5] (by kernel_rfl) (by rfl)
  clear H2
  obtain ⟨F6, hF6, n6, s6, K6⟩ := Hold.front (Γ := [rB gp 98 ([dv, wv, .map (some mg)]), rR u8 5 dv xs, rR kW 100 wv ps, rM mg (yng ps)]) (Δ := [rB ge 60 ((eC s b gp gw gd tv qn actv usd (wr64 (opn + 1)) gl gk)), rB gl 2 ([.int .i64 (-1)])]) H3
  refine rg (r (mv z1) (clb rfl go21 an (platter_barrier hF6 n6 hDk.V) ?_))
  rintro _ ws Hs1
  have H4 : Hold w F ws [rB gp 98 ([dv, (.slice none 0 0), .map (some mg)]), rR u8 5 dv (stN xs ps (fun _ => 64) ps.length), rR kW 100 (.slice none 0 0) ([]), rM mg (yng ([])), rB ge 60 ((eC s b gp gw gd tv qn actv usd (wr64 (opn + 1)) gl gk)), rB gl 2 ([.int .i64 (-1)])] := Hold.call K6 Hs1
  clear H3
  clear K6 hF6 n6 s6
  clear Hs1
  refine re ?_
  have H5 : Hold w F ws [rB ge 60 ((eC s b gp gw gd tv qn actv usd (wr64 (opn + 1)) gl gk)), rB gp 98 ([dv, (.slice none 0 0), .map (some mg)]), rR u8 5 dv (stN xs ps (fun _ => 64) ps.length), rR kW 100 (.slice none 0 0) ([]), rM mg (yng ([])), rB gl 2 ([.int .i64 (-1)])] := Hold.re H4 [4, 0, 1, 2, 3, 5] (by kernel_rfl) (by rfl)
  clear H4
  exact fin0 Tryz.results159 H5
theorem eng_sync_o {w : World} {F : List Nat} {ge gp gw gd gl gk mg : Nat} {tv dv wv : Value} {s b qn actv usd opn : Int} {xs : List Int} {ps : List Wr} {rdf : Int → List Int} (h : Hs w [rB ge 60 ((eC s b gp gw gd tv qn actv usd opn gl gk)), rB gp 98 ([dv, wv, .map (some mg)]), rR u8 5 dv xs, rR kW 100 wv ps, rM mg (yng ps), rB gl 2 ([.int .i64 (-1)])] F) (nd : F.Nodup) (hDk : Dk (logs s b + s * b) xs ps rdf) : Ret Tryz.prog 137 #[.pointer (some ⟨ge, 0, none⟩)] w (fun r w' => Hold w F w' [rB ge 60 ((eC s b gp gw gd tv qn actv usd (wr64 (opn + 1)) gl gk)), rB gp 98 ([dv, (.slice none 0 0), .map (some mg)]), rR u8 5 dv (stN xs ps (fun _ => 64) ps.length), rR kW 100 (.slice none 0 0) ([]), rM mg (yng ([])), rB gl 2 ([.int .i64 (-1)])]) := by
  refine enter Tryz.func137 rfl Tryz.ntmps137 (by rfl) (by rfl) ?_
  have H0 : Hold w F w [rB ge 60 ((eC s b gp gw gd tv qn actv usd opn gl gk)), rB gp 98 ([dv, wv, .map (some mg)]), rR u8 5 dv xs, rR kW 100 wv ps, rM mg (yng ps), rB gl 2 ([.int .i64 (-1)])] := Hold.begin h nd
  have b1 : B w ge 60 ((eC s b gp gw gd tv qn actv usd opn gl gk)) := Hold.blk H0 0 rfl
  obtain ⟨F2, hF2, n2, s2, K2⟩ := Hold.front (Γ := [rB ge 60 ((eC s b gp gw gd tv qn actv usd opn gl gk)), rB gp 98 ([dv, wv, .map (some mg)]), rR u8 5 dv xs, rR kW 100 wv ps, rM mg (yng ps), rB gl 2 ([.int .i64 (-1)])]) (Δ := []) H0
  refine rg (r (mv rfl) (r (mv rfl) (r (nck rfl) (r (fa Tryz.underlying60 rfl ti49 rfl rfl) (r (ldb Tryz.underlying49 rfl rfl b1 rfl) (r (mf (vs := [.pointer (some ⟨gp, 0, none⟩)]) (cs := []) (ac rfl an) an) (cl go159 (op_sync hF2 n2 hDk) (ac rfl (ac rfl an)) ?_)))))))
  rintro _ ws Hs1
  have H1 : Hold w F ws [rB ge 60 ((eC s b gp gw gd tv qn actv usd (wr64 (opn + 1)) gl gk)), rB gp 98 ([dv, (.slice none 0 0), .map (some mg)]), rR u8 5 dv (stN xs ps (fun _ => 64) ps.length), rR kW 100 (.slice none 0 0) ([]), rM mg (yng ([])), rB gl 2 ([.int .i64 (-1)])] := Hold.call K2 Hs1
  clear H0
  clear K2 hF2 n2 s2
  clear Hs1
  refine re ?_
  exact fin0 Tryz.results137 H1
theorem put_1 {w : World} {F : List Nat} {ge gp gw gd gl gk mg gc gb gs gq : Nat} {tv dv wv : Value} {s b qn actv usd opn c : Int} {ys xs : List Int} {ps : List Wr} (h : Hs w [rB ge 60 ((eC s b gp gw gd tv qn actv usd opn gl gk)), rB gp 98 ([dv, wv, .map (some mg)]), rR u8 5 dv xs, rR kW 100 wv ps, rM mg (yng ps), rB gc 47 ([.pointer (some ⟨ge, 0, none⟩)]), rB gb 2 ([.int .i64 c]), rB gs 22 ([.slice (some ⟨gq, 0, none⟩) 64 64]), rB gq 71 (byts ys)] F) (nd : F.Nodup) (lq : ys.length = 64) (hps : ps.length ≤ 400) : Ret Tryz.prog 160 #[.pointer (some ⟨gc, 0, none⟩), .pointer (some ⟨gb, 0, none⟩), .pointer (some ⟨gs, 0, none⟩)] w (fun r w' => ∃ wv', Hold w F w' [rB ge 60 ((eC s b gp gw gd tv qn actv usd opn gl gk)), rB gp 98 ([dv, wv', .map (some mg)]), rR u8 5 dv xs, rR kW 100 wv' (ps ++ [(c, ys)]), rM mg (yng (ps ++ [(c, ys)])), rB gc 47 ([.pointer (some ⟨ge, 0, none⟩)]), rB gb 2 ([.int .i64 c]), rB gs 22 ([.slice (some ⟨gq, 0, none⟩) 64 64]), rB gq 71 (byts ys)]) := by
  refine enter Tryz.func160 rfl Tryz.ntmps160 (by rfl) (by rfl) ?_
  have H0 : Hold w F w [rB ge 60 ((eC s b gp gw gd tv qn actv usd opn gl gk)), rB gp 98 ([dv, wv, .map (some mg)]), rR u8 5 dv xs, rR kW 100 wv ps, rM mg (yng ps), rB gc 47 ([.pointer (some ⟨ge, 0, none⟩)]), rB gb 2 ([.int .i64 c]), rB gs 22 ([.slice (some ⟨gq, 0, none⟩) 64 64]), rB gq 71 (byts ys)] := Hold.begin h nd
  refine rde mixed ?_
  intro w1 c1
  have H1 : Hold w F w1 [rB ge 60 ((eC s b gp gw gd tv qn actv usd opn gl gk)), rB gp 98 ([dv, wv, .map (some mg)]), rR u8 5 dv xs, rR kW 100 wv ps, rM mg (yng ps), rB gc 47 ([.pointer (some ⟨ge, 0, none⟩)]), rB gb 2 ([.int .i64 c]), rB gs 22 ([.slice (some ⟨gq, 0, none⟩) 64 64]), rB gq 71 (byts ys)] := Hold.t H0 c1
  clear H0
  clear c1
  have H2 : Hold w F w1 [rB gp 98 ([dv, wv, .map (some mg)]), rR u8 5 dv xs, rR kW 100 wv ps, rM mg (yng ps), rB ge 60 ((eC s b gp gw gd tv qn actv usd opn gl gk)), rB gc 47 ([.pointer (some ⟨ge, 0, none⟩)]), rB gb 2 ([.int .i64 c]), rB gs 22 ([.slice (some ⟨gq, 0, none⟩) 64 64]), rB gq 71 (byts ys)] := Hold.re H1 [1, 2, 3, 4, 0, 5, 6, 7, 8] (by kernel_rfl) (by rfl)
  clear H1
  obtain ⟨Fd2, hFd2, nd2, Kd2, Xd2, sd2⟩ := Hold.frontx (Γ := [rB gp 98 ([dv, wv, .map (some mg)]), rR u8 5 dv xs, rR kW 100 wv ps, rM mg (yng ps)]) (Δ := [rB ge 60 ((eC s b gp gw gd tv qn actv usd opn gl gk)), rB gc 47 ([.pointer (some ⟨ge, 0, none⟩)]), rB gb 2 ([.int .i64 c]), rB gs 22 ([.slice (some ⟨gq, 0, none⟩) 64 64]), rB gq 71 (byts ys)]) H2
  have H2d0 : Hold w1 Fd2 w1 [rB gp 98 ([dv, wv, .map (some mg)]), rR u8 5 dv xs, rR kW 100 wv ps, rM mg (yng ps)] := Hold.begin hFd2 nd2
  refine ⟨fun w' => Ch Fd2 w1 w', Ch.refl _ _, ?_⟩
  obtain ⟨_, ⟨rfl, b3⟩, x3⟩ := Xd2 1 (rB gc 47 ([.pointer (some ⟨ge, 0, none⟩)])) rfl
  obtain ⟨_, ⟨rfl, b4⟩, x4⟩ := Xd2 0 (rB ge 60 ((eC s b gp gw gd tv qn actv usd opn gl gk))) rfl
  obtain ⟨_, ⟨rfl, b5⟩, x5⟩ := Xd2 2 (rB gb 2 ([.int .i64 c])) rfl
  obtain ⟨_, ⟨rfl, b6⟩, x6⟩ := Xd2 3 (rB gs 22 ([.slice (some ⟨gq, 0, none⟩) 64 64])) rfl
  have H3 : Hold w F w1 [rB gp 98 ([dv, wv, .map (some mg)]), rR u8 5 dv xs, rR kW 100 wv ps, rM mg (yng ps), rB ge 60 ((eC s b gp gw gd tv qn actv usd opn gl gk)), rB gc 47 ([.pointer (some ⟨ge, 0, none⟩)]), rB gb 2 ([.int .i64 c]), rB gs 22 ([.slice (some ⟨gq, 0, none⟩) 64 64]), rB gq 71 (byts ys)] := Hold.call Kd2 H2d0
  clear H2d0 H2
  obtain ⟨F7, hF7, n7, K7, X7, s7⟩ := Hold.frontx (Γ := [rB gp 98 ([dv, wv, .map (some mg)]), rR u8 5 dv xs, rR kW 100 wv ps, rM mg (yng ps)]) (Δ := [rB ge 60 ((eC s b gp gw gd tv qn actv usd opn gl gk)), rB gc 47 ([.pointer (some ⟨ge, 0, none⟩)]), rB gb 2 ([.int .i64 c]), rB gs 22 ([.slice (some ⟨gq, 0, none⟩) 64 64]), rB gq 71 (byts ys)]) H3
  obtain ⟨_, ⟨rfl, bq⟩, xq⟩ := X7 4 (rB gq 71 (byts ys)) rfl
  refine edt 0 rfl (by kernel_rfl) (fun w' hS => ldb Tryz.underlying47 rfl rfl (hS.b b3 (x3 _ (by simp))) rfl) (edt 1 rfl (by kernel_rfl) (fun w' hS => nck rfl) (edt 2 rfl (by kernel_rfl) (fun w' hS => fa Tryz.underlying60 rfl ti49 rfl rfl) (edt 3 rfl (by kernel_rfl) (fun w' hS => ldb Tryz.underlying49 rfl rfl (hS.b b4 (x4 _ (by simp))) rfl) (edt 4 rfl (by kernel_rfl) (fun w' hS => ldb Tryz.underlying2 rfl rfl (hS.b b5 (x5 _ (by simp))) rfl) (edt 5 rfl (by kernel_rfl) (fun w' hS => ldb Tryz.underlying22 rfl rfl (hS.b b6 (x6 _ (by simp))) rfl) (ed1 6 (by kernel_rfl) <| euc rfl go19 (ac rfl (ac rfl (ac rfl an))) (platter_write (b := c) hF7 n7 (Kd.W.R (row_of_arr (xs := ys) bq lq (Nat.le_of_ble_eq_true rfl))) xq (by omega) (by omega)) ?_))))))
  rintro _ ww ⟨wv', Hw⟩
  have H4 : Hold w F ww [rB gp 98 ([dv, wv', .map (some mg)]), rR u8 5 dv xs, rR kW 100 wv' (ps ++ [(c, ys)]), rM mg (yng (ps ++ [(c, ys)])), rB ge 60 ((eC s b gp gw gd tv qn actv usd opn gl gk)), rB gc 47 ([.pointer (some ⟨ge, 0, none⟩)]), rB gb 2 ([.int .i64 c]), rB gs 22 ([.slice (some ⟨gq, 0, none⟩) 64 64]), rB gq 71 (byts ys)] := Hold.call K7 Hw
  clear H3
  clear K7 hF7 n7 s7
  clear Hw
  refine ⟨.inl (by kernel_rfl), ?_⟩
  refine edd (by kernel_rfl) ?_
  have H5 : Hold w F ww [rB ge 60 ((eC s b gp gw gd tv qn actv usd opn gl gk)), rB gp 98 ([dv, wv', .map (some mg)]), rR u8 5 dv xs, rR kW 100 wv' (ps ++ [(c, ys)]), rM mg (yng (ps ++ [(c, ys)])), rB gc 47 ([.pointer (some ⟨ge, 0, none⟩)]), rB gb 2 ([.int .i64 c]), rB gs 22 ([.slice (some ⟨gq, 0, none⟩) 64 64]), rB gq 71 (byts ys)] := Hold.re H4 [4, 0, 1, 2, 3, 5, 6, 7, 8] (by kernel_rfl) (by rfl)
  clear H4
  exact fin0 Tryz.results160 ⟨wv', H5⟩
theorem op_put {w : World} {F : List Nat} {ge gp gw gd gl gk mg gc gb gs gq : Nat} {tv dv wv : Value} {s b qn actv usd opn c : Int} {ys xs : List Int} {ps : List Wr} (h : Hs w [rB ge 60 ((eC s b gp gw gd tv qn actv usd opn gl gk)), rB gp 98 ([dv, wv, .map (some mg)]), rR u8 5 dv xs, rR kW 100 wv ps, rM mg (yng ps), rB gl 2 ([.int .i64 (-1)]), rB gc 47 ([.pointer (some ⟨ge, 0, none⟩)]), rB gb 2 ([.int .i64 c]), rB gs 22 ([.slice (some ⟨gq, 0, none⟩) 64 64]), rB gq 71 (byts ys)] F) (nd : F.Nodup) (lq : ys.length = 64) (hps : ps.length ≤ 400) : Ret Tryz.prog 159 #[.pointer (some ⟨ge, 0, none⟩), .func (.func 160) #[] [.pointer (some ⟨gc, 0, none⟩), .pointer (some ⟨gb, 0, none⟩), .pointer (some ⟨gs, 0, none⟩)].toArray] w (fun r w' => ∃ wv', Hold w F w' [rB ge 60 ((eC s b gp gw gd tv qn actv usd (wr64 (opn + 1)) gl gk)), rB gp 98 ([dv, wv', .map (some mg)]), rR u8 5 dv xs, rR kW 100 wv' (ps ++ [(c, ys)]), rM mg (yng (ps ++ [(c, ys)])), rB gl 2 ([.int .i64 (-1)]), rB gc 47 ([.pointer (some ⟨ge, 0, none⟩)]), rB gb 2 ([.int .i64 c]), rB gs 22 ([.slice (some ⟨gq, 0, none⟩) 64 64]), rB gq 71 (byts ys)]) := by
  refine enter Tryz.func159 rfl Tryz.ntmps159 (by rfl) (by rfl) ?_
  have H0 : Hold w F w [rB ge 60 ((eC s b gp gw gd tv qn actv usd opn gl gk)), rB gp 98 ([dv, wv, .map (some mg)]), rR u8 5 dv xs, rR kW 100 wv ps, rM mg (yng ps), rB gl 2 ([.int .i64 (-1)]), rB gc 47 ([.pointer (some ⟨ge, 0, none⟩)]), rB gb 2 ([.int .i64 c]), rB gs 22 ([.slice (some ⟨gq, 0, none⟩) 64 64]), rB gq 71 (byts ys)] := Hold.begin h nd
  have b1 : B w ge 60 ((eC s b gp gw gd tv qn actv usd opn gl gk)) := Hold.blk H0 0 rfl
  have b3 : B w gl 2 ([.int .i64 (-1)]) := Hold.blk H0 5 rfl
  refine sq (rg (r (mv rfl) (r (nck rfl) (r (fa Tryz.underlying60 rfl ti1 rfl rfl) (r (ldb Tryz.underlying1 rfl rfl b1 rfl) (clv rfl go10 an (Run_1 b3) ?_))))))
  rintro _ wa ca
  have H1 : Hold w F wa [rB ge 60 ((eC s b gp gw gd tv qn actv usd opn gl gk)), rB gp 98 ([dv, wv, .map (some mg)]), rR u8 5 dv xs, rR kW 100 wv ps, rM mg (yng ps), rB gl 2 ([.int .i64 (-1)]), rB gc 47 ([.pointer (some ⟨ge, 0, none⟩)]), rB gb 2 ([.int .i64 c]), rB gs 22 ([.slice (some ⟨gq, 0, none⟩) 64 64]), rB gq 71 (byts ys)] := Hold.t H0 ca
  clear H0
  clear ca
  have b4 : B wa ge 60 ((eC s b gp gw gd tv qn actv usd opn gl gk)) := Hold.blk H1 0 rfl
  refine re (sq (rg (r (mv rfl) (r (nck rfl) (r (fa Tryz.underlying60 rfl ti2 rfl rfl) (r (ldb Tryz.underlying2 rfl rfl b4 rfl) (r (adw (wr64 (opn + 1)) rfl rfl rfl) (r (nck rfl) (r (fa Tryz.underlying60 rfl ti2 rfl rfl) (ef0 (xst (vs := [.int .i64 (wr64 (opn + 1))]) ti2 rfl rfl (cel1 rfl) b4 rfl (Nat.le_of_ble_eq_true rfl) (one_all rfl)) ?_))))))))))
  rintro w5 ⟨-, b5, c5⟩
  have H2 : Hold w F w5 [rB ge 60 ((eC s b gp gw gd tv qn actv usd (wr64 (opn + 1)) gl gk)), rB gp 98 ([dv, wv, .map (some mg)]), rR u8 5 dv xs, rR kW 100 wv ps, rM mg (yng ps), rB gl 2 ([.int .i64 (-1)]), rB gc 47 ([.pointer (some ⟨ge, 0, none⟩)]), rB gb 2 ([.int .i64 c]), rB gs 22 ([.slice (some ⟨gq, 0, none⟩) 64 64]), rB gq 71 (byts ys)] := Hold.setB H1 0 rfl b5 c5 rfl
  clear H1
  clear b5 c5
  refine re ?_
  refine gen (fun ρ => ρ 1 = .func (.func 160) #[] [.pointer (some ⟨gc, 0, none⟩), .pointer (some ⟨gb, 0, none⟩), .pointer (some ⟨gs, 0, none⟩)].toArray ∧ True) ⟨rfl, trivial⟩ ?_
  rintro ρ ⟨z1, -⟩
  have H3 : Hold w F w5 [rB ge 60 ((eC s b gp gw gd tv qn actv usd (wr64 (opn + 1)) gl gk)), rB gp 98 ([dv, wv, .map (some mg)]), rR u8 5 dv xs, rR kW 100 wv ps, rM mg (yng ps), rB gc 47 ([.pointer (some ⟨ge, 0, none⟩)]), rB gb 2 ([.int .i64 c]), rB gs 22 ([.slice (some ⟨gq, 0, none⟩) 64 64]), rB gq 71 (byts ys), rB gl 2 ([.int .i64 (-1)])] := Hold.re H2 [0, 1, 2, 3, 4, 6, 7, 8, 9, 5] (by kernel_rfl) (by rfl)
  clear H2
  obtain ⟨F6, hF6, n6, s6, K6⟩ := Hold.front (Γ := [rB ge 60 ((eC s b gp gw gd tv qn actv usd (wr64 (opn + 1)) gl gk)), rB gp 98 ([dv, wv, .map (some mg)]), rR u8 5 dv xs, rR kW 100 wv ps, rM mg (yng ps), rB gc 47 ([.pointer (some ⟨ge, 0, none⟩)]), rB gb 2 ([.int .i64 c]), rB gs 22 ([.slice (some ⟨gq, 0, none⟩) 64 64]), rB gq 71 (byts ys)]) (Δ := [rB gl 2 ([.int .i64 (-1)])]) H3
  refine rg (r (mv z1) (clv rfl go160 an (put_1 (c := c) hF6 n6 lq hps) ?_))
  rintro _ ws ⟨wv', Hs1⟩
  have H4 : Hold w F ws [rB ge 60 ((eC s b gp gw gd tv qn actv usd (wr64 (opn + 1)) gl gk)), rB gp 98 ([dv, wv', .map (some mg)]), rR u8 5 dv xs, rR kW 100 wv' (ps ++ [(c, ys)]), rM mg (yng (ps ++ [(c, ys)])), rB gc 47 ([.pointer (some ⟨ge, 0, none⟩)]), rB gb 2 ([.int .i64 c]), rB gs 22 ([.slice (some ⟨gq, 0, none⟩) 64 64]), rB gq 71 (byts ys), rB gl 2 ([.int .i64 (-1)])] := Hold.call K6 Hs1
  clear H3
  clear K6 hF6 n6 s6
  clear Hs1
  refine re ?_
  have H5 : Hold w F ws [rB ge 60 ((eC s b gp gw gd tv qn actv usd (wr64 (opn + 1)) gl gk)), rB gp 98 ([dv, wv', .map (some mg)]), rR u8 5 dv xs, rR kW 100 wv' (ps ++ [(c, ys)]), rM mg (yng (ps ++ [(c, ys)])), rB gl 2 ([.int .i64 (-1)]), rB gc 47 ([.pointer (some ⟨ge, 0, none⟩)]), rB gb 2 ([.int .i64 c]), rB gs 22 ([.slice (some ⟨gq, 0, none⟩) 64 64]), rB gq 71 (byts ys)] := Hold.re H4 [0, 1, 2, 3, 4, 9, 5, 6, 7, 8] (by kernel_rfl) (by rfl)
  clear H4
  exact fin0 Tryz.results159 ⟨wv', H5⟩
theorem eng_sync {w : World} {F : List Nat} {ge gp gw gd gl gk : Nat} {tv : Value} {s b qn actv usd opn : Int} {rdf : Int → List Int} (h : Hs w [rB ge 60 ((eC s b gp gw gd tv qn actv usd opn gl gk)), rPl gp (logs s b + s * b) rdf, rB gl 2 ([.int .i64 (-1)])] F) (nd : F.Nodup) : Ret Tryz.prog 137 #[.pointer (some ⟨ge, 0, none⟩)] w (fun r w' => ∃ op', Hold w F w' [rB ge 60 ((eC s b gp gw gd tv qn actv usd op' gl gk)), rPl gp (logs s b + s * b) rdf, rB gl 2 ([.int .i64 (-1)])]) := by
  refine enter Tryz.func137 rfl Tryz.ntmps137 (by rfl) (by rfl) ?_
  have H0 : Hold w F w [rB ge 60 ((eC s b gp gw gd tv qn actv usd opn gl gk)), rPl gp (logs s b + s * b) rdf, rB gl 2 ([.int .i64 (-1)])] := Hold.begin h nd
  have H1 : Hold w F w [rPl gp (logs s b + s * b) rdf, rB ge 60 ((eC s b gp gw gd tv qn actv usd opn gl gk)), rB gl 2 ([.int .i64 (-1)])] := Hold.re H0 [1, 0, 2] (by kernel_rfl) (by rfl)
  clear H0
  obtain ⟨dv, wv, mg, xs, ps, hDk, H2⟩ := Hold.plE H1
  replace H2 : Hold w F w [rB gp 98 ([dv, wv, .map (some mg)]), rR u8 5 dv xs, rR kW 100 wv ps, rM mg (yng ps), rB ge 60 ((eC s b gp gw gd tv qn actv usd opn gl gk)), rB gl 2 ([.int .i64 (-1)])] := H2
  clear H1
  have b1 : B w ge 60 ((eC s b gp gw gd tv qn actv usd opn gl gk)) := Hold.blk H2 4 rfl
  have H3 : Hold w F w [rB ge 60 ((eC s b gp gw gd tv qn actv usd opn gl gk)), rB gp 98 ([dv, wv, .map (some mg)]), rR u8 5 dv xs, rR kW 100 wv ps, rM mg (yng ps), rB gl 2 ([.int .i64 (-1)])] := Hold.re H2 [4, 0, 1, 2, 3, 5] (by kernel_rfl) (by rfl)
  clear H2
  obtain ⟨F2, hF2, n2, s2, K2⟩ := Hold.front (Γ := [rB ge 60 ((eC s b gp gw gd tv qn actv usd opn gl gk)), rB gp 98 ([dv, wv, .map (some mg)]), rR u8 5 dv xs, rR kW 100 wv ps, rM mg (yng ps), rB gl 2 ([.int .i64 (-1)])]) (Δ := []) H3
  refine rg (r (mv rfl) (r (mv rfl) (r (nck rfl) (r (fa Tryz.underlying60 rfl ti49 rfl rfl) (r (ldb Tryz.underlying49 rfl rfl b1 rfl) (r (mf (vs := [.pointer (some ⟨gp, 0, none⟩)]) (cs := []) (ac rfl an) an) (cl go159 (op_sync hF2 n2 hDk) (ac rfl (ac rfl an)) ?_)))))))
  rintro _ ws Hs1
  have H4 : Hold w F ws [rB ge 60 ((eC s b gp gw gd tv qn actv usd (wr64 (opn + 1)) gl gk)), rB gp 98 ([dv, (.slice none 0 0), .map (some mg)]), rR u8 5 dv (stN xs ps (fun _ => 64) ps.length), rR kW 100 (.slice none 0 0) ([]), rM mg (yng ([])), rB gl 2 ([.int .i64 (-1)])] := Hold.call K2 Hs1
  clear H3
  clear K2 hF2 n2 s2
  clear Hs1
  refine re ?_
  have H5 : Hold w F ws [rB gp 98 ([dv, (.slice none 0 0), .map (some mg)]), rR u8 5 dv (stN xs ps (fun _ => 64) ps.length), rR kW 100 (.slice none 0 0) ([]), rM mg (yng ([])), rB ge 60 ((eC s b gp gw gd tv qn actv usd (wr64 (opn + 1)) gl gk)), rB gl 2 ([.int .i64 (-1)])] := Hold.re H4 [1, 2, 3, 4, 0, 5] (by kernel_rfl) (by rfl)
  clear H4
  have H6 : Hold w F ws [rPl gp (logs s b + s * b) rdf, rB ge 60 ((eC s b gp gw gd tv qn actv usd (wr64 (opn + 1)) gl gk)), rB gl 2 ([.int .i64 (-1)])] := Hold.plI hDk.sync H5
  clear H5
  have H7 : Hold w F ws [rB ge 60 ((eC s b gp gw gd tv qn actv usd (wr64 (opn + 1)) gl gk)), rPl gp (logs s b + s * b) rdf, rB gl 2 ([.int .i64 (-1)])] := Hold.re H6 [1, 0, 2] (by kernel_rfl) (by rfl)
  clear H6
  exact fin0 Tryz.results137 ⟨_, H7⟩
theorem eng_put {w : World} {F : List Nat} {ge gp gw gd gl gk gq : Nat} {tv : Value} {s b qn actv usd opn c : Int} {ys : List Int} {rdf : Int → List Int} (h : Hs w [rB ge 60 ((eC s b gp gw gd tv qn actv usd opn gl gk)), rPl gp (logs s b + s * b) rdf, rB gl 2 ([.int .i64 (-1)]), rB gq 71 (byts ys)] F) (nd : F.Nodup) (lq : ys.length = 64) (hc : 0 ≤ c ∧ c < logs s b + s * b) : Ret Tryz.prog 136 #[.pointer (some ⟨ge, 0, none⟩), .int .i64 c, .slice (some ⟨gq, 0, none⟩) 64 64] w (fun r w' => ∃ op', Hold w F w' [rB ge 60 ((eC s b gp gw gd tv qn actv usd op' gl gk)), rPl gp (logs s b + s * b) (upR rdf c ys), rB gl 2 ([.int .i64 (-1)]), rB gq 71 (byts ys)]) := by
  refine enter Tryz.func136 rfl Tryz.ntmps136 (by rfl) (by rfl) ?_
  have H0 : Hold w F w [rB ge 60 ((eC s b gp gw gd tv qn actv usd opn gl gk)), rPl gp (logs s b + s * b) rdf, rB gl 2 ([.int .i64 (-1)]), rB gq 71 (byts ys)] := Hold.begin h nd
  have H1 : Hold w F w [rPl gp (logs s b + s * b) rdf, rB ge 60 ((eC s b gp gw gd tv qn actv usd opn gl gk)), rB gl 2 ([.int .i64 (-1)]), rB gq 71 (byts ys)] := Hold.re H0 [1, 0, 2, 3] (by kernel_rfl) (by rfl)
  clear H0
  obtain ⟨dv, wv, mg, xs, ps, hDk, H2⟩ := Hold.plE H1
  replace H2 : Hold w F w [rB gp 98 ([dv, wv, .map (some mg)]), rR u8 5 dv xs, rR kW 100 wv ps, rM mg (yng ps), rB ge 60 ((eC s b gp gw gd tv qn actv usd opn gl gk)), rB gl 2 ([.int .i64 (-1)]), rB gq 71 (byts ys)] := H2
  clear H1
  have hnp := hDk.np
  refine sq (rg (ef (xbx (t := 47) rfl (cel1 rfl)) ?_))
  rintro _ w1 ⟨g3, e1, rfl, -, b1, c1⟩
  have H3 : Hold w F w1 [rB gp 98 ([dv, wv, .map (some mg)]), rR u8 5 dv xs, rR kW 100 wv ps, rM mg (yng ps), rB ge 60 ((eC s b gp gw gd tv qn actv usd opn gl gk)), rB gl 2 ([.int .i64 (-1)]), rB gq 71 (byts ys), rB g3 47 ([.pointer (some ⟨ge, 0, none⟩)])] := Hold.newB H2 e1 b1 c1
  clear H2
  clear e1 b1 c1
  refine ef (xbx (t := 2) rfl (cel1 rfl)) ?_
  rintro _ w2 ⟨g4, e2, rfl, -, b2, c2⟩
  have H4 : Hold w F w2 [rB gp 98 ([dv, wv, .map (some mg)]), rR u8 5 dv xs, rR kW 100 wv ps, rM mg (yng ps), rB ge 60 ((eC s b gp gw gd tv qn actv usd opn gl gk)), rB gl 2 ([.int .i64 (-1)]), rB gq 71 (byts ys), rB g3 47 ([.pointer (some ⟨ge, 0, none⟩)]), rB g4 2 ([.int .i64 c])] := Hold.newB H3 e2 b2 c2
  clear H3
  clear e2 b2 c2
  have b3 : B w2 gq 71 (byts ys) := Hold.blk H4 6 rfl
  refine ef (xbx (t := 22) rfl (cel1 ((Kd.W.R (row_of_arr (xs := ys) b3 lq (Nat.le_of_ble_eq_true rfl)))).oneCell)) ?_
  rintro _ w4 ⟨g5, e4, rfl, -, b4, c4⟩
  have H5 : Hold w F w4 [rB gp 98 ([dv, wv, .map (some mg)]), rR u8 5 dv xs, rR kW 100 wv ps, rM mg (yng ps), rB ge 60 ((eC s b gp gw gd tv qn actv usd opn gl gk)), rB gl 2 ([.int .i64 (-1)]), rB gq 71 (byts ys), rB g3 47 ([.pointer (some ⟨ge, 0, none⟩)]), rB g4 2 ([.int .i64 c]), rB g5 22 ([.slice (some ⟨gq, 0, none⟩) 64 64])] := Hold.newB H4 e4 b4 c4
  clear H4
  clear e4 b4 c4
  have b5 : B w4 g3 47 ([.pointer (some ⟨ge, 0, none⟩)]) := Hold.blk H5 7 rfl
  have b6 : B w4 ge 60 ((eC s b gp gw gd tv qn actv usd opn gl gk)) := Hold.blk H5 4 rfl
  have b7 : B w4 gp 98 ([dv, wv, .map (some mg)]) := Hold.blk H5 0 rfl
  obtain ⟨_, R8⟩ : ∃ F, Kd.R kW w4 F wv ps := Hold.row H5 2 rfl
  refine re (sq (sq (rg (r (ldb Tryz.underlying47 rfl rfl b5 rfl) (r (nck rfl) (r (fa Tryz.underlying60 rfl ti49 rfl rfl) (r (ldb Tryz.underlying49 rfl rfl b6 rfl) (r (nck rfl) (r (fa Tryz.underlying98 rfl ti31 rfl rfl) (r (ldb Tryz.underlying31 rfl rfl b7 rfl) (r (ln Tryz.underlying31 rfl (R8)) (r (bi rfl rfl rfl) (re ?_)))))))))))))
  refine cp rfl (fun h256 => ?_) (fun h256 => ?_)
  · refine gen (fun ρ => ρ 3 = .pointer (some ⟨g3, 0, none⟩) ∧ ρ 4 = .pointer (some ⟨g4, 0, none⟩) ∧ ρ 5 = .pointer (some ⟨g5, 0, none⟩) ∧ True) ⟨rfl, rfl, rfl, trivial⟩ ?_
    rintro ρ ⟨z3, z4, z5, -⟩
    have H6 : Hold w F w4 [rB ge 60 ((eC s b gp gw gd tv qn actv usd opn gl gk)), rB gp 98 ([dv, wv, .map (some mg)]), rR u8 5 dv xs, rR kW 100 wv ps, rM mg (yng ps), rB gl 2 ([.int .i64 (-1)]), rB gq 71 (byts ys), rB g3 47 ([.pointer (some ⟨ge, 0, none⟩)]), rB g4 2 ([.int .i64 c]), rB g5 22 ([.slice (some ⟨gq, 0, none⟩) 64 64])] := Hold.re H5 [4, 0, 1, 2, 3, 5, 6, 7, 8, 9] (by kernel_rfl) (by rfl)
    clear H5
    obtain ⟨F9, hF9, n9, s9, K9⟩ := Hold.front (Γ := [rB ge 60 ((eC s b gp gw gd tv qn actv usd opn gl gk)), rB gp 98 ([dv, wv, .map (some mg)]), rR u8 5 dv xs, rR kW 100 wv ps, rM mg (yng ps), rB gl 2 ([.int .i64 (-1)])]) (Δ := [rB gq 71 (byts ys), rB g3 47 ([.pointer (some ⟨ge, 0, none⟩)]), rB g4 2 ([.int .i64 c]), rB g5 22 ([.slice (some ⟨gq, 0, none⟩) 64 64])]) H6
    refine rg (r (ldb Tryz.underlying47 rfl z3 b5 rfl) (cl go137 (eng_sync_o hF9 n9 hDk) (ac rfl an) ?_))
    rintro _ ws Hs1
    have H7 : Hold w F ws [rB ge 60 ((eC s b gp gw gd tv qn actv usd (wr64 (opn + 1)) gl gk)), rB gp 98 ([dv, (.slice none 0 0), .map (some mg)]), rR u8 5 dv (stN xs ps (fun _ => 64) ps.length), rR kW 100 (.slice none 0 0) ([]), rM mg (yng ([])), rB gl 2 ([.int .i64 (-1)]), rB gq 71 (byts ys), rB g3 47 ([.pointer (some ⟨ge, 0, none⟩)]), rB g4 2 ([.int .i64 c]), rB g5 22 ([.slice (some ⟨gq, 0, none⟩) 64 64])] := Hold.call K9 Hs1
    clear H6
    clear K9 hF9 n9 s9
    clear Hs1
    have b10 : B ws g3 47 ([.pointer (some ⟨ge, 0, none⟩)]) := Hold.blk H7 7 rfl
    refine re (rg (r (ldb Tryz.underlying47 rfl z3 b10 rfl) (r (mf (vs := []) (cs := [.pointer (some ⟨g3, 0, none⟩), .pointer (some ⟨g4, 0, none⟩), .pointer (some ⟨g5, 0, none⟩)]) an (ac z3 (ac z4 (ac z5 an)))) ?_)))
    have H8 : Hold w F ws [rB ge 60 ((eC s b gp gw gd tv qn actv usd (wr64 (opn + 1)) gl gk)), rB gp 98 ([dv, (.slice none 0 0), .map (some mg)]), rR u8 5 dv (stN xs ps (fun _ => 64) ps.length), rR kW 100 (.slice none 0 0) ([]), rM mg (yng ([])), rB gl 2 ([.int .i64 (-1)]), rB g3 47 ([.pointer (some ⟨ge, 0, none⟩)]), rB g4 2 ([.int .i64 c]), rB g5 22 ([.slice (some ⟨gq, 0, none⟩) 64 64]), rB gq 71 (byts ys)] := Hold.re H7 [0, 1, 2, 3, 4, 5, 7, 8, 9, 6] (by kernel_rfl) (by rfl)
    clear H7
    obtain ⟨F11, hF11, n11, s11, K11⟩ := Hold.front (Γ := [rB ge 60 ((eC s b gp gw gd tv qn actv usd (wr64 (opn + 1)) gl gk)), rB gp 98 ([dv, (.slice none 0 0), .map (some mg)]), rR u8 5 dv (stN xs ps (fun _ => 64) ps.length), rR kW 100 (.slice none 0 0) ([]), rM mg (yng ([])), rB gl 2 ([.int .i64 (-1)]), rB g3 47 ([.pointer (some ⟨ge, 0, none⟩)]), rB g4 2 ([.int .i64 c]), rB g5 22 ([.slice (some ⟨gq, 0, none⟩) 64 64]), rB gq 71 (byts ys)]) (Δ := []) H8
    refine cl go159 (op_put (c := c) (ps := []) hF11 n11 lq (by simp)) (ac rfl (ac rfl an)) ?_
    rintro _ wq ⟨wv', Hq⟩
    have H9 : Hold w F wq [rB ge 60 ([.pointer (some ⟨gp, 0, none⟩), .int .i64 s, .int .i64 b, .int .i64 (s * b), .int .i64 (tabs s b), .int .i64 (logs s b), .int .i64 (logs s b + s * b), .int .i64 (s * b - 2 * b), .map (some gw), .map (some gd), tv, .int .i64 qn, .int .i64 actv, .int .i64 usd, .int .i64 (wr64 (wr64 (opn + 1) + 1)), .func (.func 10) #[] [.pointer (some ⟨gl, 0, none⟩), .pointer (some ⟨gk, 0, none⟩)].toArray]), rB gp 98 ([dv, wv', .map (some mg)]), rR u8 5 dv (stN xs ps (fun _ => 64) ps.length), rR kW 100 wv' ([] ++ [(c, ys)]), rM mg (yng ([] ++ [(c, ys)])), rB gl 2 ([.int .i64 (-1)]), rB g3 47 ([.pointer (some ⟨ge, 0, none⟩)]), rB g4 2 ([.int .i64 c]), rB g5 22 ([.slice (some ⟨gq, 0, none⟩) 64 64]), rB gq 71 (byts ys)] := Hold.call K11 Hq
    clear H8
    clear K11 hF11 n11 s11
    clear Hq
    refine re ?_
    have H10 : Hold w F wq [rB gp 98 ([dv, wv', .map (some mg)]), rR u8 5 dv (stN xs ps (fun _ => 64) ps.length), rR kW 100 wv' ([] ++ [(c, ys)]), rM mg (yng ([] ++ [(c, ys)])), rB ge 60 ([.pointer (some ⟨gp, 0, none⟩), .int .i64 s, .int .i64 b, .int .i64 (s * b), .int .i64 (tabs s b), .int .i64 (logs s b), .int .i64 (logs s b + s * b), .int .i64 (s * b - 2 * b), .map (some gw), .map (some gd), tv, .int .i64 qn, .int .i64 actv, .int .i64 usd, .int .i64 (wr64 (wr64 (opn + 1) + 1)), .func (.func 10) #[] [.pointer (some ⟨gl, 0, none⟩), .pointer (some ⟨gk, 0, none⟩)].toArray]), rB gl 2 ([.int .i64 (-1)]), rB g3 47 ([.pointer (some ⟨ge, 0, none⟩)]), rB g4 2 ([.int .i64 c]), rB g5 22 ([.slice (some ⟨gq, 0, none⟩) 64 64]), rB gq 71 (byts ys)] := Hold.re H9 [1, 2, 3, 4, 0, 5, 6, 7, 8, 9] (by kernel_rfl) (by rfl)
    clear H9
    have H11 : Hold w F wq [rPl gp (logs s b + s * b) (upR rdf c ys), rB ge 60 ([.pointer (some ⟨gp, 0, none⟩), .int .i64 s, .int .i64 b, .int .i64 (s * b), .int .i64 (tabs s b), .int .i64 (logs s b), .int .i64 (logs s b + s * b), .int .i64 (s * b - 2 * b), .map (some gw), .map (some gd), tv, .int .i64 qn, .int .i64 actv, .int .i64 usd, .int .i64 (wr64 (wr64 (opn + 1) + 1)), .func (.func 10) #[] [.pointer (some ⟨gl, 0, none⟩), .pointer (some ⟨gk, 0, none⟩)].toArray]), rB gl 2 ([.int .i64 (-1)]), rB g3 47 ([.pointer (some ⟨ge, 0, none⟩)]), rB g4 2 ([.int .i64 c]), rB g5 22 ([.slice (some ⟨gq, 0, none⟩) 64 64]), rB gq 71 (byts ys)] := Hold.plI (hDk.sync.put (by simp) hc lq) H10
    clear H10
    have H12 : Hold w F wq [rB ge 60 ([.pointer (some ⟨gp, 0, none⟩), .int .i64 s, .int .i64 b, .int .i64 (s * b), .int .i64 (tabs s b), .int .i64 (logs s b), .int .i64 (logs s b + s * b), .int .i64 (s * b - 2 * b), .map (some gw), .map (some gd), tv, .int .i64 qn, .int .i64 actv, .int .i64 usd, .int .i64 (wr64 (wr64 (opn + 1) + 1)), .func (.func 10) #[] [.pointer (some ⟨gl, 0, none⟩), .pointer (some ⟨gk, 0, none⟩)].toArray]), rPl gp (logs s b + s * b) (upR rdf c ys), rB gl 2 ([.int .i64 (-1)]), rB gq 71 (byts ys)] := (show Hold w F wq ([rB ge 60 ([.pointer (some ⟨gp, 0, none⟩), .int .i64 s, .int .i64 b, .int .i64 (s * b), .int .i64 (tabs s b), .int .i64 (logs s b), .int .i64 (logs s b + s * b), .int .i64 (s * b - 2 * b), .map (some gw), .map (some gd), tv, .int .i64 qn, .int .i64 actv, .int .i64 usd, .int .i64 (wr64 (wr64 (opn + 1) + 1)), .func (.func 10) #[] [.pointer (some ⟨gl, 0, none⟩), .pointer (some ⟨gk, 0, none⟩)].toArray]), rPl gp (logs s b + s * b) (upR rdf c ys), rB gl 2 ([.int .i64 (-1)]), rB gq 71 (byts ys)] ++ [rB g3 47 ([.pointer (some ⟨ge, 0, none⟩)]), rB g4 2 ([.int .i64 c]), rB g5 22 ([.slice (some ⟨gq, 0, none⟩) 64 64])]) from Hold.re H11 [1, 0, 2, 6, 3, 4, 5] (by kernel_rfl) (by rfl)).drop
    clear H11
    exact fin0 Tryz.results136 ⟨_, H12⟩
  · refine sk ?_
    refine gen (fun ρ => ρ 3 = .pointer (some ⟨g3, 0, none⟩) ∧ ρ 4 = .pointer (some ⟨g4, 0, none⟩) ∧ ρ 5 = .pointer (some ⟨g5, 0, none⟩) ∧ True) ⟨rfl, rfl, rfl, trivial⟩ ?_
    rintro ρ ⟨z3, z4, z5, -⟩
    have H6 : Hold w F w4 [rB ge 60 ((eC s b gp gw gd tv qn actv usd opn gl gk)), rB gp 98 ([dv, wv, .map (some mg)]), rR u8 5 dv xs, rR kW 100 wv ps, rM mg (yng ps), rB gl 2 ([.int .i64 (-1)]), rB g3 47 ([.pointer (some ⟨ge, 0, none⟩)]), rB g4 2 ([.int .i64 c]), rB g5 22 ([.slice (some ⟨gq, 0, none⟩) 64 64]), rB gq 71 (byts ys)] := Hold.re H5 [4, 0, 1, 2, 3, 5, 7, 8, 9, 6] (by kernel_rfl) (by rfl)
    clear H5
    obtain ⟨F9, hF9, n9, s9, K9⟩ := Hold.front (Γ := [rB ge 60 ((eC s b gp gw gd tv qn actv usd opn gl gk)), rB gp 98 ([dv, wv, .map (some mg)]), rR u8 5 dv xs, rR kW 100 wv ps, rM mg (yng ps), rB gl 2 ([.int .i64 (-1)]), rB g3 47 ([.pointer (some ⟨ge, 0, none⟩)]), rB g4 2 ([.int .i64 c]), rB g5 22 ([.slice (some ⟨gq, 0, none⟩) 64 64]), rB gq 71 (byts ys)]) (Δ := []) H6
    refine rg (r (ldb Tryz.underlying47 rfl z3 b5 rfl) (r (mf (vs := []) (cs := [.pointer (some ⟨g3, 0, none⟩), .pointer (some ⟨g4, 0, none⟩), .pointer (some ⟨g5, 0, none⟩)]) an (ac z3 (ac z4 (ac z5 an)))) (cl go159 (op_put (c := c) (ps := ps) hF9 n9 lq (by omega)) (ac rfl (ac rfl an)) ?_)))
    rintro _ wq ⟨wv', Hq⟩
    have H7 : Hold w F wq [rB ge 60 ((eC s b gp gw gd tv qn actv usd (wr64 (opn + 1)) gl gk)), rB gp 98 ([dv, wv', .map (some mg)]), rR u8 5 dv xs, rR kW 100 wv' (ps ++ [(c, ys)]), rM mg (yng (ps ++ [(c, ys)])), rB gl 2 ([.int .i64 (-1)]), rB g3 47 ([.pointer (some ⟨ge, 0, none⟩)]), rB g4 2 ([.int .i64 c]), rB g5 22 ([.slice (some ⟨gq, 0, none⟩) 64 64]), rB gq 71 (byts ys)] := Hold.call K9 Hq
    clear H6
    clear K9 hF9 n9 s9
    clear Hq
    refine re ?_
    have H8 : Hold w F wq [rB gp 98 ([dv, wv', .map (some mg)]), rR u8 5 dv xs, rR kW 100 wv' (ps ++ [(c, ys)]), rM mg (yng (ps ++ [(c, ys)])), rB ge 60 ((eC s b gp gw gd tv qn actv usd (wr64 (opn + 1)) gl gk)), rB gl 2 ([.int .i64 (-1)]), rB g3 47 ([.pointer (some ⟨ge, 0, none⟩)]), rB g4 2 ([.int .i64 c]), rB g5 22 ([.slice (some ⟨gq, 0, none⟩) 64 64]), rB gq 71 (byts ys)] := Hold.re H7 [1, 2, 3, 4, 0, 5, 6, 7, 8, 9] (by kernel_rfl) (by rfl)
    clear H7
    have H9 : Hold w F wq [rPl gp (logs s b + s * b) (upR rdf c ys), rB ge 60 ((eC s b gp gw gd tv qn actv usd (wr64 (opn + 1)) gl gk)), rB gl 2 ([.int .i64 (-1)]), rB g3 47 ([.pointer (some ⟨ge, 0, none⟩)]), rB g4 2 ([.int .i64 c]), rB g5 22 ([.slice (some ⟨gq, 0, none⟩) 64 64]), rB gq 71 (byts ys)] := Hold.plI (hDk.put (by omega) hc lq) H8
    clear H8
    have H10 : Hold w F wq [rB ge 60 ((eC s b gp gw gd tv qn actv usd (wr64 (opn + 1)) gl gk)), rPl gp (logs s b + s * b) (upR rdf c ys), rB gl 2 ([.int .i64 (-1)]), rB gq 71 (byts ys)] := (show Hold w F wq ([rB ge 60 ((eC s b gp gw gd tv qn actv usd (wr64 (opn + 1)) gl gk)), rPl gp (logs s b + s * b) (upR rdf c ys), rB gl 2 ([.int .i64 (-1)]), rB gq 71 (byts ys)] ++ [rB g3 47 ([.pointer (some ⟨ge, 0, none⟩)]), rB g4 2 ([.int .i64 c]), rB g5 22 ([.slice (some ⟨gq, 0, none⟩) 64 64])]) from Hold.re H9 [1, 0, 2, 6, 3, 4, 5] (by kernel_rfl) (by rfl)).drop
    clear H9
    exact fin0 Tryz.results136 ⟨_, H10⟩
end Go.Proofs.YtanfhikfeabidaaGreatDoor
