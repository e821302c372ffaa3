/-
  CONTRACTS 15: counts of segments. No condition.
-/
import Derived.Test.Ytgpcanjmgdmdhaa14
import Derived.Test.YtgpcanjmgdmdhaaMore
namespace Go.Proofs.Ytgpcanjmgdmdhaa
open Go Go.Eng
set_option maxRecDepth 100000
set_option maxHeartbeats 4000000
set_option linter.unusedVariables false
theorem inLog {w : World} {a0 a1 a2 a3 a4 x : Int} : Ret Try.prog 125 #[.agg #[.int .i64 a0, .int .i64 a1, .int .i64 a2, .int .i64 a3, .int .i64 a4], .int .i64 x] w (fun r w' => r = .bool (decide (a2 ≤ x ∧ x < a3)) ∧ Ch [] w w') := by
  refine enter Try.func125 rfl Try.ntmps125 (by rfl) (by rfl) ?_
  refine sq (rg (bx rfl ?_))
  intro g2 wg2 eg2 sg2 bg2 cg2
  have qg2 := le_new (Ch.refl [] w).size eg2
  have hcg2 : Ch [] w wg2 := (Ch.refl [] w).t cg2
  replace bg2 : B wg2 g2 32 ([.int .i64 a0, .int .i64 a1, .int .i64 a2, .int .i64 a3, .int .i64 a4]) := bg2
  refine r (sa rfl) (re (sq (rg (r (mv rfl) (r (fa Try.underlying32 rfl ti2 rfl rfl) (r (ldb Try.underlying2 rfl rfl bg2 rfl) (r (bi rfl rfl rfl) (r (mv rfl) ?_))))))))
  refine sp 9 rfl (fun h => ?_) (fun h => ?_)
  · refine gy rfl rfl rfl (r (mv rfl) (gy rfl rfl rfl (r (fa Try.underlying32 rfl ti2 rfl rfl) (gy rfl rfl rfl (r (ldb Try.underlying2 rfl rfl bg2 rfl) (gy rfl rfl rfl (r (bi rfl rfl rfl) (r (pk rfl rfl) (r (sa rfl) (re (rt ?_)))))))))))
    exact fin1 (v := .bool (decide (x < a3))) Try.results125 rfl ⟨congrArg Value.bool (decide_eq_decide.2 (by omega)), hcg2⟩
  · refine gn rfl rfl rfl (gn rfl rfl rfl (gn rfl rfl rfl (gn rfl rfl rfl (r (pk rfl rfl) (r (sa rfl) (re (rt ?_)))))))
    exact fin1 (v := .bool false) Try.results125 rfl ⟨congrArg Value.bool (decide_eq_false (by omega)).symm, hcg2⟩
/-- How many entries lie in segment j of the log that begins at L, of segments of b blocks. -/
def inSeg (L b : Int) (j : Nat) (x : Int × Bool) : Bool := decide (L + (j : Int) * b ≤ x.1 ∧ x.1 < L + (j : Int) * b + b)
def cnt (L b : Int) (j : Nat) (xs : List (Int × Bool)) : Int := ((xs.filter (inSeg L b j)).length : Int)
def segc (L b : Int) (n : Nat) (xs : List (Int × Bool)) : List Int := (List.range n).map (fun j => cnt L b j xs)
def segCounts (xs : List (Int × Bool)) (s b : Int) : List Int := if geo s b then segc (logs s b) b s.toNat xs else []
theorem cnt_succ {L b : Int} {j : Nat} {xs : List (Int × Bool)} {k : Nat} (hk : k < xs.length) : cnt L b j (xs.take (k + 1)) = cnt L b j (xs.take k) + (if inSeg L b j xs[k] = true then 1 else 0) := by
  rw [List.take_succ_eq_append_getElem hk]
  simp only [cnt, List.filter_append, List.length_append, List.filter_cons, List.filter_nil]
  split <;> simp
theorem cnt_le {L b : Int} {j : Nat} {xs : List (Int × Bool)} : 0 ≤ cnt L b j xs ∧ cnt L b j xs ≤ xs.length := by
  have := List.length_filter_le (inSeg L b j) xs
  simp only [cnt]; omega
theorem segc_len (L b : Int) (n : Nat) (xs : List (Int × Bool)) : (segc L b n xs).length = n := by simp [segc]
theorem segc_succ (L b : Int) (n : Nat) (xs : List (Int × Bool)) : segc L b (n + 1) xs = segc L b n xs ++ [cnt L b n xs] := by simp [segc, List.range_succ]
theorem segc_nil (L b : Int) (n : Nat) : segc L b n [] = List.replicate n 0 := by
  simp only [segc, cnt, List.filter_nil, List.length_nil]
  induction n with
  | zero => rfl
  | succ n ih => rw [List.range_succ, List.map_append, ih, List.replicate_succ']; rfl
/-- An entry in the log lies in just one segment. -/
theorem inSeg_iff {L b a : Int} {j : Nat} {x : Int × Bool} (hb : 0 < b) (hx : L ≤ x.1) (ha : (x.1 - L) / b = a) : inSeg L b j x = decide ((j : Int) = a) := by
  unfold inSeg
  apply decide_eq_decide.2
  subst ha
  have h1 := Int.mul_ediv_add_emod (x.1 - L) b
  have h2 := Int.emod_nonneg (x.1 - L) (show b ≠ 0 by omega)
  have h3 := Int.emod_lt_of_pos (x.1 - L) hb
  constructor
  · rintro ⟨g1, g2⟩
    have : (x.1 - L) / b = (j : Int) := by
      rw [show x.1 - L = (x.1 - L - (j : Int) * b) + (j : Int) * b by omega, Int.add_mul_ediv_right _ _ (by omega), Int.ediv_eq_zero_of_lt (by omega) (by omega)]
      omega
    omega
  · intro e
    rw [← e] at h1
    rw [Int.mul_comm] at h1
    omega
theorem inSeg_out {L b : Int} {j n : Nat} {x : Int × Bool} (hb : 0 < b) (hj : j < n) (hx : ¬ (L ≤ x.1 ∧ x.1 < L + (n : Int) * b)) : inSeg L b j x = false := by
  unfold inSeg
  apply decide_eq_false
  rintro ⟨g1, g2⟩
  have h1 : 0 ≤ (j : Int) * b := Int.mul_nonneg (by omega) (by omega)
  have h2 : ((j : Int) + 1) * b ≤ (n : Int) * b := Int.mul_le_mul_of_nonneg_right (by omega) (by omega)
  rw [Int.add_mul, Int.one_mul] at h2
  exact hx ⟨by omega, by omega⟩
theorem segc_out {L b : Int} {n : Nat} {xs : List (Int × Bool)} {k : Nat} (hk : k < xs.length) (hb : 0 < b) (hx : ¬ (L ≤ xs[k].1 ∧ xs[k].1 < L + (n : Int) * b)) : segc L b n (xs.take (k + 1)) = segc L b n (xs.take k) := by
  apply List.map_congr_left
  intro j hj
  rw [cnt_succ hk, inSeg_out hb (List.mem_range.1 hj) hx]
  simp
theorem segc_in {L b : Int} {n q : Nat} {xs : List (Int × Bool)} {k : Nat} (hk : k < xs.length) (hb : 0 < b) (hx : L ≤ xs[k].1) (hq : (xs[k].1 - L) / b = (q : Int)) (hqn : q < n) : (segc L b n (xs.take k)).set q (cnt L b q (xs.take k) + 1) = segc L b n (xs.take (k + 1)) := by
  apply List.ext_getElem
  · simp [segc]
  · intro j h1 h2
    rw [List.getElem_set]
    simp only [segc, List.getElem_map, List.getElem_range]
    rw [cnt_succ hk, inSeg_iff hb hx hq]
    by_cases e : q = j
    · subst e; simp
    · simp [e, show ¬ (j : Int) = (q : Int) by omega]
theorem impl_SegmentCounts {w : World} {F : List Nat} {v : Value} {xs : List (Int × Bool)} {s b : Int} (hx : kE.R w F v xs) (lx : xs.length ≤ 1000000000) :
    Ret Try.prog 71 #[v, .agg #[.int .i64 s, .int .i64 b]] w (fun r w' => New i64 2 w w' r (segCounts xs s b) ∧ Ch [] w w') := by
  refine enter Try.func71 rfl Try.ntmps71 (by rfl) (by rfl) ?_
  refine sq (rg (bx rfl ?_))
  intro g3 wg3 eg3 sg3 bg3 cg3
  have qg3 := le_new (Ch.refl [] w).size eg3
  have hcg3 : Ch [] w wg3 := (Ch.refl [] w).t cg3
  replace bg3 : B wg3 g3 34 ([.int .i64 s, .int .i64 b]) := bg3
  refine r (sa rfl) (re (sq (sq (rg (r (lab [.int .i64 s, .int .i64 b] Try.underlying34 rfl ti34 rfl bg3 rfl rfl) (cl go95 (valid) (ac rfl an) ?_))))))
  rintro r wa ⟨rfl, ca⟩
  replace bg3 := ca.b0 bg3
  have hca : Ch [] w wa := hcg3.t ca
  refine r (nt rfl) (re ?_)
  refine cpn rfl (fun hg => ?_) (fun hg => ?_)
  · rw [show segCounts xs s b = [] from if_neg hg]
    refine sq (rg (r (sa rfl) (re (rt ?_))))
    exact fin1 (v := .slice none 0 0) Try.results71 rfl ⟨⟨[], Kd.nil_W _ _ _, List.nodup_nil, by simp⟩, hca⟩
  · have hL : ((lay s b).map (Value.int .i64)).toArray = #[.int .i64 (s * b), .int .i64 (tabs s b), .int .i64 (logs s b), .int .i64 (logs s b + s * b), .int .i64 (s * b - 2 * b)] := by rw [lay, if_pos hg]; rfl
    obtain ⟨hm1, hm2⟩ := geo_mul hg
    have ht : 0 ≤ tabs s b ∧ tabs s b ≤ 33 := by unfold tabs; omega
    have hlg : 0 ≤ logs s b ∧ logs s b ≤ 68 := by unfold logs; omega
    rw [show segCounts xs s b = segc (logs s b) b s.toNat xs from if_pos hg]
    obtain ⟨hg1, hg2, hg3, hg4⟩ := hg
    obtain ⟨m, hm⟩ : ∃ m : Nat, s = (m : Int) := ⟨s.toNat, by omega⟩
    rw [show s.toNat = m by omega]
    refine sk (sq (rg (r (lab [.int .i64 s, .int .i64 b] Try.underlying34 rfl ti34 rfl bg3 rfl rfl) (cl go31 (impl_Layout) (ac rfl an) ?_))))
    rintro r wlay ⟨er, clay⟩
    rw [hL] at er
    subst er
    replace bg3 := clay.b0 bg3
    have hclay : Ch [] w wlay := hca.t clay
    refine al ti32 ?_
    intro g5 wg5 eg5 sg5 bg5 cg5
    have ng3_g5 := ne_new bg3.lt eg5
    have qg5 := le_new hclay.size eg5
    replace bg3 := cg5.b0 bg3
    have hcg5 : Ch [] w wg5 := hclay.t cg5
    replace bg5 : B wg5 g5 32 ([.int .i64 0, .int .i64 0, .int .i64 0, .int .i64 0, .int .i64 0]) := bg5
    refine st ti32 rfl rfl bg5 rfl (Nat.le_of_ble_eq_true rfl) (one_all rfl) ?_
    intro wS3g5 sS3g5 bg5 cS3g5
    replace bg3 := cS3g5.b bg3 (nin1 ng3_g5)
    have hcS3g5 : Ch [] w wS3g5 := hcg5.own cS3g5 qg5
    replace bg5 : B wS3g5 g5 32 ([.int .i64 (s * b), .int .i64 (tabs s b), .int .i64 (logs s b), .int .i64 (logs s b + s * b), .int .i64 (s * b - 2 * b)]) := bg5
    refine re (sq (rg (r (fa Try.underlying34 rfl ti2 rfl rfl) (r (ldb Try.underlying2 rfl rfl bg3 rfl) ?_))))
    refine mk (dk := i64) (m := m) 0 Try.underlying22 ti2 (fun _ => ⟨rfl, rfl⟩) ((show _ = Value.int .i64 s from rfl).trans (by rw [hm])) ((show _ = Value.int .i64 s from rfl).trans (by rw [hm])) (by omega) ?_
    intro v1 w1 F1 W1 n1 f1 c1
    have d1_g3 := old_d f1 bg3.lt
    have d1_g5 := old_d f1 bg5.lt
    replace f1 := low_t hcS3g5 f1
    replace bg3 := c1.b0 bg3
    replace bg5 := c1.b0 bg5
    have hc1 : Ch [] w w1 := hcS3g5.t c1
    refine r (sa rfl) (re (sq (sq ?_)))
    refine gen (fun ρ => ρ 0 = v ∧ ρ 3 = .pointer (some ⟨g3, 0, none⟩) ∧ ρ 4 = .slice none 0 0 ∧ ρ 5 = .pointer (some ⟨g5, 0, none⟩) ∧ ρ 6 = v1 ∧ True) ⟨rfl, rfl, rfl, rfl, rfl, trivial⟩ ?_
    rintro ρ ⟨z0, z3, z4, z5, z6, -⟩
    refine rg (r (mv z0) (r (ln Try.underlying57 rfl ((hx.t hc1))) (r (mv rfl) (re (bl ?_)))))
    refine lp (α := Nat × List Nat) (fun (k, F1) ρ w' => ρ 3 = .pointer (some ⟨g3, 0, none⟩) ∧ ρ 5 = .pointer (some ⟨g5, 0, none⟩) ∧ ρ 6 = v1 ∧ ρ 17 = v ∧ ρ 18 = .int .i64 (xs.length : Int) ∧ ρ 19 = .int .i64 (k : Int) ∧ B w' g3 34 ([.int .i64 s, .int .i64 b]) ∧ B w' g5 32 ([.int .i64 (s * b), .int .i64 (tabs s b), .int .i64 (logs s b), .int .i64 (logs s b + s * b), .int .i64 (s * b - 2 * b)]) ∧ Ch [] w w' ∧ Kd.W i64 2 w' F1 v1 (segc (logs s b) b m (xs.take k)) ∧ F1.Nodup ∧ (∀ k, k ∈ F1 → w.heap.size ≤ k) ∧ (∀ k, k ∈ F1 → k ∉ [g3]) ∧ (∀ k, k ∈ F1 → k ∉ [g5]) ∧ k ≤ xs.length) (fun (k, F1) => xs.length - k) (0, F1) ?_ ?_
    · exact ⟨z3, z5, z6, rfl, rfl, rfl, bg3, bg5, hc1, (by rw [List.take_zero, segc_nil]; exact W1), n1, f1, d1_g3, d1_g5, by omega⟩
    rintro ⟨k, F1⟩ ρ w' ⟨y3, y5, y6, y17, y18, y19, bg3, bg5, hc, W1, n1, f1, d1_g3, d1_g5, hk⟩
    refine sq (rg (r (bi y19 y18 rfl) (re (sq ?_))))
    refine cp rfl (fun hlt => ?_) (fun hlt => ?_)
    · have hk' : k < xs.length := by omega
      refine sk (sq (bl (sq (rg ?_))))
      obtain ⟨c21, ad21, k21, e21, p21⟩ := (hx).place k (by omega)
      have q21 := en_at p21
      refine r (ix Try.underlying57 ti70 (y17.trans e21) y19 (by omega)) (r (la [.int .i64 ((xs[k]).1), .bool ((xs[k]).2)] Try.underlying70 rfl ti70 rfl rfl (fun m u h => Ch.cell hc (q21 m u h))) (al ti70 ?_))
      intro g8 wg8 eg8 sg8 bg8 cg8
      have ng3_g8 := ne_new bg3.lt eg8
      have ng5_g8 := ne_new bg5.lt eg8
      have d1_g8 := fresh_d W1.lt eg8
      have qg8 := le_new hc.size eg8
      replace bg3 := cg8.b0 bg3
      replace bg5 := cg8.b0 bg5
      replace W1 := W1.t cg8
      have hcg8 : Ch [] w wg8 := hc.t cg8
      replace bg8 : B wg8 g8 70 ([.int .i64 0, .bool false]) := bg8
      refine st ti70 rfl rfl bg8 rfl (Nat.le_of_ble_eq_true rfl) (one_all rfl) ?_
      intro wS3g8 sS3g8 bg8 cS3g8
      replace bg3 := cS3g8.b bg3 (nin1 ng3_g8)
      replace bg5 := cS3g8.b bg5 (nin1 ng5_g8)
      replace W1 := W1.tt cS3g8 d1_g8
      have hcS3g8 : Ch [] w wS3g8 := hcg8.own cS3g8 qg8
      replace bg8 : B wS3g8 g8 70 ([.int .i64 ((xs[k]).1), .bool ((xs[k]).2)]) := bg8
      refine re (sq (rg (r (lab [.int .i64 (s * b), .int .i64 (tabs s b), .int .i64 (logs s b), .int .i64 (logs s b + s * b), .int .i64 (s * b - 2 * b)] Try.underlying32 rfl ti32 y5 bg5 rfl rfl) (r (fa Try.underlying70 rfl ti2 rfl rfl) (r (ldb Try.underlying2 rfl rfl bg8 rfl) (cl go125 (inLog) (ac rfl (ac rfl an)) ?_))))))
      rintro r wi ⟨rfl, ci⟩
      replace bg3 := ci.b0 bg3
      replace bg5 := ci.b0 bg5
      replace bg8 := ci.b0 bg8
      replace W1 := W1.t ci
      have hci : Ch [] w wi := hcS3g8.t ci
      refine re ?_
      refine cp rfl (fun hin => ?_) (fun hin => ?_)
      · obtain ⟨hi1, hi2⟩ := hin
        have hb0 : 0 < b := by omega
        obtain ⟨q0, hq0⟩ : ∃ q0 : Nat, (xs[k].1 - logs s b) / b = (q0 : Int) := ⟨((xs[k].1 - logs s b) / b).toNat, by have := Int.ediv_nonneg (show 0 ≤ xs[k].1 - logs s b by omega) (show 0 ≤ b by omega); omega⟩
        have hqm : q0 < m := by
          have : (xs[k].1 - logs s b) / b < s := Int.ediv_lt_of_lt_mul hb0 (by omega)
          omega
        have hsl := segc_len (logs s b) b m (xs.take k)
        have hcl := cnt_le (L := logs s b) (b := b) (j := q0) (xs := xs.take k)
        rw [List.length_take] at hcl
        have hget : (segc (logs s b) b m (xs.take k))[q0]'(by omega) = cnt (logs s b) b q0 (xs.take k) := by simp [segc]
        have hsi := segc_in hk' hb0 hi1 hq0 hqm
        refine rg (r (mv y6) (r (fa Try.underlying70 rfl ti2 rfl rfl) (r (ldb Try.underlying2 rfl rfl bg8 rfl) (r (fa Try.underlying32 rfl ti2 rfl y5) (r (ldb Try.underlying2 rfl rfl bg5 rfl) (r (sb (((xs[k]).1) - (logs s b)) rfl rfl (by omega)) (r (fa Try.underlying34 rfl ti2 rfl y3) (r (ldb Try.underlying2 rfl rfl bg3 rfl) (r (dv ((q0 : Int)) rfl rfl (by rw [Int.tdiv_eq_ediv_of_nonneg (by omega)]; omega)) ?_)))))))))
        obtain ⟨c36, ad36, k36, e36, p36⟩ := (W1.R).place q0 (by omega)
        refine r (ix Try.underlying22 ti2 e36 rfl (by omega)) (r (ld Try.underlying2 rfl rfl p36.cell) (r (ad ((cnt (logs s b) b q0 (xs.take k) + 1)) rfl rfl (by rw [hget]; omega)) (ixs (a := (cnt (logs s b) b q0 (xs.take k) + 1)) (j := q0) Try.underlying22 ti2 rfl W1 rfl (by omega) (fun _ => rfl) ⟨rfl, rfl⟩ (nodup_nil n1) ?_)))
        intro _ w39 F39 s39 A39
        have hA39 := A39.hc W1 hci f1
        have tb := A39.blk W1 d1_g3 bg3
        replace d1_g3 := A39.dis d1_g3 bg3.lt
        replace bg3 := tb
        clear tb
        have tb := A39.blk W1 d1_g5 bg5
        replace d1_g5 := A39.dis d1_g5 bg5.lt
        replace bg5 := tb
        clear tb
        have tb := A39.blk W1 d1_g8 bg8
        replace d1_g8 := A39.dis d1_g8 bg8.lt
        replace bg8 := tb
        clear tb
        replace f1 := A39.low hci f1
        replace n1 := A39.nd
        replace W1 := A39.W
        refine re (be ?_)
        refine gen (fun ρ => ρ 3 = .pointer (some ⟨g3, 0, none⟩) ∧ ρ 5 = .pointer (some ⟨g5, 0, none⟩) ∧ ρ 6 = v1 ∧ ρ 17 = v ∧ ρ 18 = .int .i64 (xs.length : Int) ∧ ρ 19 = .int .i64 (k : Int) ∧ True) ⟨y3, y5, y6, y17, y18, y19, trivial⟩ ?_
        rintro ρ ⟨z3, z5, z6, z17, z18, z19, -⟩
        refine rg (r (ad ((k : Int) + 1) z19 rfl (by omega)) (r (mv rfl) (re ?_)))
        rw [hsi] at W1
        exact ag (k + 1, F39) ⟨z3, z5, z6, z17, z18, rfl, bg3, bg5, hA39, W1, n1, f1, d1_g3, d1_g5, by omega⟩ (by first | omega | (dsimp only; omega))
      · have hso := segc_out (L := logs s b) (b := b) (n := m) hk' (by omega) (fun e => hin ⟨e.1, by have h := e.2; rw [← hm] at h; exact h⟩)
        rw [← hso] at W1
        refine sk (be (rg (r (ad ((k : Int) + 1) y19 rfl (by omega)) (r (mv rfl) (re ?_)))))
        exact ag (k + 1, F1) ⟨y3, y5, y6, y17, y18, rfl, bg3, bg5, hci, W1, n1, f1, d1_g3, d1_g5, by omega⟩ (by first | omega | (dsimp only; omega))
    · obtain rfl : k = xs.length := by omega
      rw [List.take_length] at W1
      refine ex rfl (sq (rg (r (mv y6) (r (sa rfl) (re (rt ?_))))))
      exact fin1 (v := v1) Try.results71 rfl ⟨⟨F1, W1, n1, f1⟩, hc⟩
theorem spec_SegmentCounts {w : World} {F : List Nat} {v : Value} {xs : List (Int × Bool)} {s b : Int} (hx : kE.R w F v xs) (lx : xs.length ≤ 1000000000) :
    Ret Try.prog 70 #[v, .agg #[.int .i64 s, .int .i64 b]] w (fun r w' => New i64 2 w w' r (segCounts xs s b) ∧ Ch [] w w') := by
  refine enter Try.func70 rfl Try.ntmps70 (by rfl) (by rfl) ?_
  refine sq (rg (bx rfl ?_))
  intro g3 wg3 eg3 sg3 bg3 cg3
  have qg3 := le_new (Ch.refl [] w).size eg3
  have hcg3 : Ch [] w wg3 := (Ch.refl [] w).t cg3
  replace bg3 : B wg3 g3 34 ([.int .i64 s, .int .i64 b]) := bg3
  refine r (sa rfl) (re (sq (rg (bs0 Try.underlying22 ti2 ?_))))
  intro v1 w1 N1 c1 s1
  obtain ⟨F1, W1, n1, f1⟩ := N1 i64 rfl
  have d1_g3 := old_d f1 bg3.lt
  replace f1 := low_t hcg3 f1
  replace bg3 := c1.b0 bg3
  have hc1 : Ch [] w w1 := hcg3.t c1
  refine r (sa rfl) (re (sq (sq (rg (r (lab [.int .i64 s, .int .i64 b] Try.underlying34 rfl ti34 rfl bg3 rfl rfl) (cl go93 (l3Good) (ac rfl an) ?_))))))
  rintro r wa ⟨rfl, ca⟩
  replace bg3 := ca.b0 bg3
  replace W1 := W1.t ca
  have hca : Ch [] w wa := hc1.t ca
  refine r (nt rfl) (re ?_)
  refine cpn rfl (fun hg => ?_) (fun hg => ?_)
  · rw [show segCounts xs s b = [] from if_neg hg]
    refine sq (rg (r (mv rfl) (r (sa rfl) (re (rt ?_)))))
    exact fin1 (v := v1) Try.results70 rfl ⟨⟨F1, W1, n1, f1⟩, hca⟩
  · have hL : ((lay s b).map (Value.int .i64)).toArray = #[.int .i64 (s * b), .int .i64 (tabs s b), .int .i64 (logs s b), .int .i64 (logs s b + s * b), .int .i64 (s * b - 2 * b)] := by rw [lay, if_pos hg]; rfl
    obtain ⟨hm1, hm2⟩ := geo_mul hg
    have ht : 0 ≤ tabs s b ∧ tabs s b ≤ 33 := by unfold tabs; omega
    have hlg : 0 ≤ logs s b ∧ logs s b ≤ 68 := by unfold logs; omega
    rw [show segCounts xs s b = segc (logs s b) b s.toNat xs from if_pos hg]
    obtain ⟨hg1, hg2, hg3, hg4⟩ := hg
    obtain ⟨m, hm⟩ : ∃ m : Nat, s = (m : Int) := ⟨s.toNat, by omega⟩
    rw [show s.toNat = m by omega]
    refine sk (sq (sq (rg (r (sa rfl) (re (bl ?_))))))
    refine lp (α := Nat × List Nat × Value) (fun (j, F1, o) ρ w' => ρ 0 = v ∧ ρ 3 = .pointer (some ⟨g3, 0, none⟩) ∧ ρ 5 = o ∧ ρ 6 = .int .i64 (j : Int) ∧ B w' g3 34 ([.int .i64 s, .int .i64 b]) ∧ Ch [] w w' ∧ Kd.W i64 2 w' F1 o (segc (logs s b) b j xs) ∧ F1.Nodup ∧ (∀ k, k ∈ F1 → w.heap.size ≤ k) ∧ (∀ k, k ∈ F1 → k ∉ [g3]) ∧ j ≤ m) (fun (j, F1, o) => m - j) (0, F1, v1) ?_ ?_
    · exact ⟨rfl, rfl, rfl, rfl, bg3, hca, W1, n1, f1, d1_g3, by omega⟩
    rintro ⟨j, F1, o⟩ ρ w' ⟨y0, y3, y5, y6, bg3, hc, W1, n1, f1, d1_g3, hj⟩
    refine sq (sq (rg (r (mv y6) (r (fa Try.underlying34 rfl ti2 rfl y3) (r (ldb Try.underlying2 rfl rfl bg3 rfl) (r (bi rfl rfl rfl) (re ?_)))))))
    refine cp rfl (fun hlt => ?_) (fun hlt => ?_)
    · have hjm : j < m := by omega
      have hjb : 0 ≤ (j : Int) * b ∧ (j : Int) * b ≤ 1024 := ⟨Int.mul_nonneg (by omega) (by omega), Int.le_trans (Int.mul_le_mul (show (j : Int) ≤ 64 by omega) hg4 (by omega) (by omega)) (by omega)⟩
      refine sk (sq (bl (sq ?_)))
      refine rdd mixed ?_
      intro wD cD
      replace bg3 := cD.b0 bg3
      replace W1 := W1.t cD
      have hcD : Ch [] w wD := hc.t cD
      have bg3D := bg3
      have W1D := W1
      refine dt 0 rfl (by kernel_rfl) (lab [.int .i64 s, .int .i64 b] Try.underlying34 rfl ti34 y3 bg3 rfl rfl) (dt 3 rfl (by kernel_rfl) (mv y6) (dt 4 rfl (by kernel_rfl) (fa Try.underlying34 rfl ti2 rfl y3) (dt 5 rfl (by kernel_rfl) (ldb Try.underlying2 rfl rfl bg3 rfl) (dt 6 rfl (by kernel_rfl) (ml ((j : Int) * b) rfl rfl (by omega)) (d1 1 (by kernel_rfl) <| uc rfl go29 (ac rfl an) (spec_Layout) ?_)))))
      rintro r wlay ⟨er, clay⟩
      rw [hL] at er
      subst er
      replace bg3 := clay.b0 bg3
      replace W1 := W1.t clay
      have hclayD := (Ch.refl [] wD).t clay
      have hclay : Ch [] w wlay := hcD.t clay
      refine ⟨hclayD, ?_⟩
      refine dt 2 rfl (by kernel_rfl) (fld Try.underlying32 rfl Try.underlying2 rfl rfl rfl) (dt 7 rfl (by kernel_rfl) (ad ((logs s b) + ((j : Int) * b)) rfl rfl (by omega)) (dt 8 rfl (by kernel_rfl) (sa rfl) ?_))
      refine dd (by kernel_rfl) (fun _ => ?_)
      refine sq ?_
      refine gen (fun ρ => ρ 0 = v ∧ ρ 3 = .pointer (some ⟨g3, 0, none⟩) ∧ ρ 5 = o ∧ ρ 6 = .int .i64 (j : Int) ∧ ρ 7 = .int .i64 ((logs s b) + ((j : Int) * b)) ∧ True) ⟨y0, y3, y5, y6, rfl, trivial⟩ ?_
      rintro ρ ⟨z0, z3, z5, z6, z7, -⟩
      refine rg (r (sa rfl) (re (sq (sq (rg (r (sa rfl) (re (bl ?_))))))))
      refine lp (α := Nat × List Nat × Value) (fun (k, F1, o) ρ w' => ρ 0 = v ∧ ρ 3 = .pointer (some ⟨g3, 0, none⟩) ∧ ρ 5 = o ∧ ρ 6 = .int .i64 (j : Int) ∧ ρ 7 = .int .i64 (logs s b + (j : Int) * b) ∧ ρ 8 = .int .i64 (cnt (logs s b) b j (xs.take k)) ∧ ρ 9 = .int .i64 (k : Int) ∧ B w' g3 34 ([.int .i64 s, .int .i64 b]) ∧ Ch [] w w' ∧ Kd.W i64 2 w' F1 o (segc (logs s b) b j xs) ∧ F1.Nodup ∧ (∀ k, k ∈ F1 → w.heap.size ≤ k) ∧ (∀ k, k ∈ F1 → k ∉ [g3]) ∧ k ≤ xs.length) (fun (k, F1, o) => xs.length - k) (0, F1, o) ?_ ?_
      · exact ⟨z0, z3, z5, z6, z7, (show _ = Value.int .i64 0 from rfl).trans (by simp [cnt]), rfl, bg3, hclay, W1, n1, f1, d1_g3, by omega⟩
      rintro ⟨k, F1, o⟩ ρ w' ⟨y0, y3, y5, y6, y7, y8, y9, bg3, hc, W1, n1, f1, d1_g3, hk⟩
      refine sq (sq (rg (r (mv y9) (r (mv y0) (r (ln Try.underlying57 rfl ((hx.t hc))) (r (bi rfl rfl rfl) (re ?_)))))))
      refine cp rfl (fun hkl => ?_) (fun hkl => ?_)
      · have hk' : k < xs.length := by omega
        have hcs := cnt_succ (L := logs s b) (b := b) (j := j) hk'
        have hcl := cnt_le (L := logs s b) (b := b) (j := j) (xs := xs.take k)
        rw [List.length_take] at hcl
        refine sk (sq (bl (sq (rd mixed (by kernel_rfl) (q (mv y0) (q (mv y9) ?_))))))
        obtain ⟨c37, ad37, k37, e37, p37⟩ := (hx).place k (by omega)
        have q37 := en_at p37
        refine q (ix Try.underlying57 ti70 e37 rfl (by omega)) (q (fa' Try.underlying70 rfl ti2 rfl rfl) (q (ld Try.underlying2 rfl rfl (Ch.cell hc (q37 0 _ rfl))) (q (mv y7) (q (bi rfl rfl rfl) (q (mv rfl) ?_)))))
        refine spq 42 rfl (fun h1 => ?_) (fun h1 => ?_)
        · refine gyq rfl rfl rfl (q (mv y0) (gyq rfl rfl rfl (q (mv y9) (gyq rfl rfl rfl ?_))))
          obtain ⟨c45, ad45, k45, e45, p45⟩ := (hx).place k (by omega)
          have q45 := en_at p45
          refine q (ix Try.underlying57 ti70 e45 rfl (by omega)) (gyq rfl rfl rfl (q (fa' Try.underlying70 rfl ti2 rfl rfl) (gyq rfl rfl rfl (q (ld Try.underlying2 rfl rfl (Ch.cell hc (q45 0 _ rfl))) (gyq rfl rfl rfl (q (mv y7) (gyq rfl rfl rfl (q (fa Try.underlying34 rfl ti2 rfl y3) (gyq rfl rfl rfl (q (ldb Try.underlying2 rfl rfl bg3 rfl) (gyq rfl rfl rfl (q (ad ((logs s b + (j : Int) * b) + b) rfl rfl (by omega)) (gyq rfl rfl rfl (q (bi rfl rfl rfl) (q (pk rfl rfl) (me ?_))))))))))))))))
          intro w1 c1
          replace bg3 := c1.b0 bg3
          replace W1 := W1.t c1
          have hc1 : Ch [] w w1 := hc.t c1
          refine cp rfl (fun h2 => ?_) (fun h2 => ?_)
          · rw [show inSeg (logs s b) b j xs[k] = true from decide_eq_true ⟨h1, h2⟩, if_pos rfl] at hcs
            refine gen (fun ρ => ρ 0 = v ∧ ρ 3 = .pointer (some ⟨g3, 0, none⟩) ∧ ρ 5 = o ∧ ρ 6 = .int .i64 (j : Int) ∧ ρ 7 = .int .i64 (logs s b + (j : Int) * b) ∧ ρ 8 = .int .i64 (cnt (logs s b) b j (xs.take k)) ∧ ρ 9 = .int .i64 (k : Int) ∧ True) ⟨y0, y3, y5, y6, y7, y8, y9, trivial⟩ ?_
            rintro ρ ⟨z0, z3, z5, z6, z7, z8, z9, -⟩
            refine rg (r (mv z8) (r (ad (cnt (logs s b) b j (xs.take (k + 1))) rfl rfl (by rw [hcs]; omega)) (r (sa rfl) (re (be (rg (r (mv z9) (r (ad ((k : Int) + 1) rfl rfl (by omega)) (r (sa rfl) (re ?_))))))))))
            exact ag (k + 1, F1, o) ⟨z0, z3, z5, z6, z7, rfl, rfl, bg3, hc1, W1, n1, f1, d1_g3, by omega⟩ (by first | omega | (dsimp only; omega))
          · rw [show inSeg (logs s b) b j xs[k] = false from decide_eq_false (fun e => h2 e.2), if_neg (by simp), Int.add_zero] at hcs
            refine sk (be ?_)
            refine gen (fun ρ => ρ 0 = v ∧ ρ 3 = .pointer (some ⟨g3, 0, none⟩) ∧ ρ 5 = o ∧ ρ 6 = .int .i64 (j : Int) ∧ ρ 7 = .int .i64 (logs s b + (j : Int) * b) ∧ ρ 8 = .int .i64 (cnt (logs s b) b j (xs.take k)) ∧ ρ 9 = .int .i64 (k : Int) ∧ True) ⟨y0, y3, y5, y6, y7, y8, y9, trivial⟩ ?_
            rintro ρ ⟨z0, z3, z5, z6, z7, z8, z9, -⟩
            refine rg (r (mv z9) (r (ad ((k : Int) + 1) rfl rfl (by omega)) (r (sa rfl) (re ?_))))
            exact ag (k + 1, F1, o) ⟨z0, z3, z5, z6, z7, (z8).trans (by rw [hcs]), rfl, bg3, hc1, W1, n1, f1, d1_g3, by omega⟩ (by first | omega | (dsimp only; omega))
        · rw [show inSeg (logs s b) b j xs[k] = false from decide_eq_false (fun e => h1 e.1), if_neg (by simp), Int.add_zero] at hcs
          refine gnq rfl rfl rfl (gnq rfl rfl rfl (gnq rfl rfl rfl (gnq rfl rfl rfl (gnq rfl rfl rfl (gnq rfl rfl rfl (gnq rfl rfl rfl (gnq rfl rfl rfl (gnq rfl rfl rfl (gnq rfl rfl rfl (q (pk rfl rfl) (me ?_)))))))))))
          intro w1 c1
          replace bg3 := c1.b0 bg3
          replace W1 := W1.t c1
          have hc1 : Ch [] w w1 := hc.t c1
          refine cf rfl (sk (be ?_))
          refine gen (fun ρ => ρ 0 = v ∧ ρ 3 = .pointer (some ⟨g3, 0, none⟩) ∧ ρ 5 = o ∧ ρ 6 = .int .i64 (j : Int) ∧ ρ 7 = .int .i64 (logs s b + (j : Int) * b) ∧ ρ 8 = .int .i64 (cnt (logs s b) b j (xs.take k)) ∧ ρ 9 = .int .i64 (k : Int) ∧ True) ⟨y0, y3, y5, y6, y7, y8, y9, trivial⟩ ?_
          rintro ρ ⟨z0, z3, z5, z6, z7, z8, z9, -⟩
          refine rg (r (mv z9) (r (ad ((k : Int) + 1) rfl rfl (by omega)) (r (sa rfl) (re ?_))))
          exact ag (k + 1, F1, o) ⟨z0, z3, z5, z6, z7, (z8).trans (by rw [hcs]), rfl, bg3, hc1, W1, n1, f1, d1_g3, by omega⟩ (by first | omega | (dsimp only; omega))
      · obtain rfl : k = xs.length := by omega
        rw [List.take_length] at y8
        have hsl := segc_len (logs s b) b j xs
        refine ex rfl (rg (r (mv y5) (r (mv y8) (ap1 Try.underlying22 ti2 rfl (fun _ => rfl) rfl W1 (show Kd.O i64 _ [] (cnt (logs s b) b j xs) _ from ⟨rfl, rfl⟩) (nodup_nil n1) (by omega) rfl ?_))))
        intro _ v59 w59 F59 A59
        have hA59 := A59.hc W1 hc f1
        have tb := A59.blk W1 d1_g3 bg3
        replace d1_g3 := A59.dis d1_g3 bg3.lt
        replace bg3 := tb
        clear tb
        replace f1 := A59.low hc f1
        replace n1 := A59.nd
        replace W1 := A59.W
        refine r (sa rfl) (re (be (rg (r (mv y6) (r (ad ((j : Int) + 1) rfl rfl (by omega)) (r (sa rfl) (re ?_)))))))
        rw [← segc_succ] at W1
        exact ag (j + 1, F59, v59) ⟨y0, y3, rfl, rfl, bg3, hA59, W1, n1, f1, d1_g3, by omega⟩ (by first | omega | (dsimp only; omega))
    · obtain rfl : j = m := by omega
      refine ex rfl (sq (rg (r (mv y5) (r (sa rfl) (re (rt ?_))))))
      exact fin1 (v := o) Try.results70 rfl ⟨⟨F1, W1, n1, f1⟩, hc⟩
end Go.Proofs.Ytgpcanjmgdmdhaa
