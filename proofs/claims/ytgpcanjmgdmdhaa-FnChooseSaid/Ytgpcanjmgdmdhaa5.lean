/-
  CONTRACTS 5: geometries and places; the law on Layout. No condition.
-/
import Derived.Test.Ytgpcanjmgdmdhaa4
namespace Go.Proofs.Ytgpcanjmgdmdhaa
open Go Go.Eng
set_option maxRecDepth 100000
set_option linter.unusedVariables false
/-- A geometry that is good. -/
abbrev geo (s b : Int) : Prop := 4 ≤ s ∧ s ≤ 64 ∧ 2 ≤ b ∧ b ≤ 16
theorem l3Good {w : World} {s b : Int} : Ret Try.prog 93 #[.agg #[.int .i64 s, .int .i64 b]] w (fun r w' => r = .bool (decide (geo s b)) ∧ Ch [] w w') := by
  refine enter Try.func93 rfl Try.ntmps93 (by rfl) (by rfl) ?_
  refine sq (rg (bx rfl ?_))
  intro g1 wg1 eg1 sg1 bg1 cg1
  have qg1 := le_new (Ch.refl [] w).size eg1
  have hcg1 : Ch [] w wg1 := (Ch.refl [] w).t cg1
  replace bg1 : B wg1 g1 34 ([.int .i64 s, .int .i64 b]) := bg1
  refine r (sa rfl) (re (sq (rg (r (fa Try.underlying34 rfl ti2 rfl rfl) (r (ldb Try.underlying2 rfl rfl bg1 rfl) (r (bi rfl rfl rfl) (r (mv rfl) ?_)))))))
  refine sp 6 rfl (fun h0 => ?_) (fun h0 => ?_)
  · refine gy rfl rfl rfl (r (fa Try.underlying34 rfl ti2 rfl rfl) (gy rfl rfl rfl (r (ldb Try.underlying2 rfl rfl bg1 rfl) (gy rfl rfl rfl (r (bi rfl rfl rfl) (r (pk rfl rfl) (r (mv rfl) ?_)))))))
    refine sp 11 rfl (fun h1 => ?_) (fun h1 => ?_)
    · refine gy rfl rfl rfl (r (fa Try.underlying34 rfl ti2 rfl rfl) (gy rfl rfl rfl (r (ldb Try.underlying2 rfl rfl bg1 rfl) (gy rfl rfl rfl (r (bi rfl rfl rfl) (r (pk rfl rfl) (r (mv rfl) ?_)))))))
      refine sp 16 rfl (fun h2 => ?_) (fun h2 => ?_)
      · refine gy rfl rfl rfl (r (fa Try.underlying34 rfl ti2 rfl rfl) (gy rfl rfl rfl (r (ldb Try.underlying2 rfl rfl bg1 rfl) (gy rfl rfl rfl (r (bi rfl rfl rfl) (r (pk rfl rfl) (r (sa rfl) (re (rt ?_)))))))))
        exact fin1 (v := .bool (decide (b ≤ 16))) Try.results93 rfl ⟨congrArg Value.bool (decide_eq_decide.2 (by omega)), hcg1⟩
      · refine gn rfl rfl rfl (gn rfl rfl rfl (gn rfl rfl rfl (r (pk rfl rfl) (r (sa rfl) (re (rt ?_))))))
        exact fin1 (v := .bool false) Try.results93 rfl ⟨congrArg Value.bool ((decide_eq_false (by omega)).symm), hcg1⟩
    · refine gn rfl rfl rfl (gn rfl rfl rfl (gn rfl rfl rfl (r (pk rfl rfl) (r (mv rfl) (gn rfl rfl rfl (gn rfl rfl rfl (gn rfl rfl rfl (r (pk rfl rfl) (r (sa rfl) (re (rt ?_)))))))))))
      exact fin1 (v := .bool false) Try.results93 rfl ⟨congrArg Value.bool ((decide_eq_false (by omega)).symm), hcg1⟩
  · refine gn rfl rfl rfl (gn rfl rfl rfl (gn rfl rfl rfl (r (pk rfl rfl) (r (mv rfl) (gn rfl rfl rfl (gn rfl rfl rfl (gn rfl rfl rfl (r (pk rfl rfl) (r (mv rfl) (gn rfl rfl rfl (gn rfl rfl rfl (gn rfl rfl rfl (r (pk rfl rfl) (r (sa rfl) (re (rt ?_))))))))))))))))
    exact fin1 (v := .bool false) Try.results93 rfl ⟨congrArg Value.bool ((decide_eq_false (by omega)).symm), hcg1⟩
theorem valid {w : World} {s b : Int} : Ret Try.prog 95 #[.agg #[.int .i64 s, .int .i64 b]] w (fun r w' => r = .bool (decide (geo s b)) ∧ Ch [] w w') := by
  refine enter Try.func95 rfl Try.ntmps95 (by rfl) (by rfl) ?_
  refine sq (rg (bx rfl ?_))
  intro g1 wg1 eg1 sg1 bg1 cg1
  have qg1 := le_new (Ch.refl [] w).size eg1
  have hcg1 : Ch [] w wg1 := (Ch.refl [] w).t cg1
  replace bg1 : B wg1 g1 34 ([.int .i64 s, .int .i64 b]) := bg1
  refine r (sa rfl) (re (sq (rg (r (fa Try.underlying34 rfl ti2 rfl rfl) (r (ldb Try.underlying2 rfl rfl bg1 rfl) (r (bi rfl rfl rfl) (r (mv rfl) ?_)))))))
  refine sp 6 rfl (fun h0 => ?_) (fun h0 => ?_)
  · refine gy rfl rfl rfl (r (fa Try.underlying34 rfl ti2 rfl rfl) (gy rfl rfl rfl (r (ldb Try.underlying2 rfl rfl bg1 rfl) (gy rfl rfl rfl (r (bi rfl rfl rfl) (r (pk rfl rfl) (r (mv rfl) ?_)))))))
    refine sp 11 rfl (fun h1 => ?_) (fun h1 => ?_)
    · refine gy rfl rfl rfl (r (fa Try.underlying34 rfl ti2 rfl rfl) (gy rfl rfl rfl (r (ldb Try.underlying2 rfl rfl bg1 rfl) (gy rfl rfl rfl (r (bi rfl rfl rfl) (r (pk rfl rfl) (r (mv rfl) ?_)))))))
      refine sp 16 rfl (fun h2 => ?_) (fun h2 => ?_)
      · refine gy rfl rfl rfl (r (fa Try.underlying34 rfl ti2 rfl rfl) (gy rfl rfl rfl (r (ldb Try.underlying2 rfl rfl bg1 rfl) (gy rfl rfl rfl (r (bi rfl rfl rfl) (r (pk rfl rfl) (r (sa rfl) (re (rt ?_)))))))))
        exact fin1 (v := .bool (decide (b ≤ 16))) Try.results95 rfl ⟨congrArg Value.bool (decide_eq_decide.2 (by omega)), hcg1⟩
      · refine gn rfl rfl rfl (gn rfl rfl rfl (gn rfl rfl rfl (r (pk rfl rfl) (r (sa rfl) (re (rt ?_))))))
        exact fin1 (v := .bool false) Try.results95 rfl ⟨congrArg Value.bool ((decide_eq_false (by omega)).symm), hcg1⟩
    · refine gn rfl rfl rfl (gn rfl rfl rfl (gn rfl rfl rfl (r (pk rfl rfl) (r (mv rfl) (gn rfl rfl rfl (gn rfl rfl rfl (gn rfl rfl rfl (r (pk rfl rfl) (r (sa rfl) (re (rt ?_)))))))))))
      exact fin1 (v := .bool false) Try.results95 rfl ⟨congrArg Value.bool ((decide_eq_false (by omega)).symm), hcg1⟩
  · refine gn rfl rfl rfl (gn rfl rfl rfl (gn rfl rfl rfl (r (pk rfl rfl) (r (mv rfl) (gn rfl rfl rfl (gn rfl rfl rfl (gn rfl rfl rfl (r (pk rfl rfl) (r (mv rfl) (gn rfl rfl rfl (gn rfl rfl rfl (gn rfl rfl rfl (r (pk rfl rfl) (r (sa rfl) (re (rt ?_))))))))))))))))
    exact fin1 (v := .bool false) Try.results95 rfl ⟨congrArg Value.bool ((decide_eq_false (by omega)).symm), hcg1⟩
theorem toGeometry {w : World} {s b : Int} : Ret Try.prog 30 #[.agg #[.int .i64 s, .int .i64 b]] w (fun r w' => r = .agg #[.int .i64 s, .int .i64 b] ∧ Ch [] w w') := by
  refine enter Try.func30 rfl Try.ntmps30 (by rfl) (by rfl) ?_
  refine sq (rg (bx rfl ?_))
  intro g1 wg1 eg1 sg1 bg1 cg1
  have qg1 := le_new (Ch.refl [] w).size eg1
  have hcg1 : Ch [] w wg1 := (Ch.refl [] w).t cg1
  replace bg1 : B wg1 g1 30 ([.int .i64 s, .int .i64 b]) := bg1
  refine al ti34 ?_
  intro g2 wg2 eg2 sg2 bg2 cg2
  have ng1_g2 := ne_new bg1.lt eg2
  have qg2 := le_new hcg1.size eg2
  replace bg1 := cg2.b0 bg1
  have hcg2 : Ch [] w wg2 := hcg1.t cg2
  replace bg2 : B wg2 g2 34 ([.int .i64 0, .int .i64 0]) := bg2
  refine re (sq (rg (al ti34 ?_)))
  intro g3 wg3 eg3 sg3 bg3 cg3
  have ng1_g3 := ne_new bg1.lt eg3
  have ng2_g3 := ne_new bg2.lt eg3
  have qg3 := le_new hcg2.size eg3
  replace bg1 := cg3.b0 bg1
  replace bg2 := cg3.b0 bg2
  have hcg3 : Ch [] w wg3 := hcg2.t cg3
  replace bg3 : B wg3 g3 34 ([.int .i64 0, .int .i64 0]) := bg3
  refine re (sq (rg (r (fa Try.underlying30 rfl ti2 rfl rfl) (r (ldb Try.underlying2 rfl rfl bg1 rfl) (r (fa Try.underlying34 rfl ti2 rfl rfl) (st ti2 rfl rfl bg3 rfl (Nat.le_of_ble_eq_true rfl) (one_all rfl) ?_))))))
  intro wS3g3 sS3g3 bg3 cS3g3
  replace bg1 := cS3g3.b bg1 (nin1 ng1_g3)
  replace bg2 := cS3g3.b bg2 (nin1 ng2_g3)
  have hcS3g3 : Ch [] w wS3g3 := hcg3.own cS3g3 qg3
  replace bg3 : B wS3g3 g3 34 ([.int .i64 s, .int .i64 0]) := bg3
  refine re (sq (rg (r (fa Try.underlying30 rfl ti2 rfl rfl) (r (ldb Try.underlying2 rfl rfl bg1 rfl) (r (fa Try.underlying34 rfl ti2 rfl rfl) (st ti2 rfl rfl bg3 rfl (Nat.le_of_ble_eq_true rfl) (one_all rfl) ?_))))))
  intro wS3g3 sS3g3 bg3 cS3g3
  replace bg1 := cS3g3.b bg1 (nin1 ng1_g3)
  replace bg2 := cS3g3.b bg2 (nin1 ng2_g3)
  have hcS3g3 : Ch [] w wS3g3 := hcS3g3.own cS3g3 qg3
  replace bg3 : B wS3g3 g3 34 ([.int .i64 s, .int .i64 b]) := bg3
  refine re (sq (rg (r (lab [.int .i64 s, .int .i64 b] Try.underlying34 rfl ti34 rfl bg3 rfl rfl) (st ti34 rfl rfl bg2 rfl (Nat.le_of_ble_eq_true rfl) (one_all rfl) ?_))))
  intro wS1g2 sS1g2 bg2 cS1g2
  replace bg1 := cS1g2.b bg1 (nin1 ng1_g2)
  replace bg3 := cS1g2.b bg3 (nin1 ng2_g3.symm)
  have hcS1g2 : Ch [] w wS1g2 := hcS3g3.own cS1g2 qg2
  replace bg2 : B wS1g2 g2 34 ([.int .i64 s, .int .i64 b]) := bg2
  refine re (rt ?_)
  exact finc  (cs := [.int .i64 s, .int .i64 b]) Try.results30 Try.underlying34 rfl ti34 rfl bg2 rfl  ⟨rfl, hcS1g2⟩
theorem l2Blocks {w : World} {n : Int} (hn : 0 ≤ n ∧ n ≤ 1000000000) : Ret Try.prog 94 #[.int .i64 n] w (fun r w' => r = .int .i64 ((n + 63) / 64) ∧ Ch [] w w') := by
  refine enter Try.func94 rfl Try.ntmps94 (by rfl) (by rfl) ?_
  refine sq (rg (r (sa rfl) (re (sq (rg (r (sa rfl) (re (sq (bl ?_)))))))))
  refine lp (α := Nat) (fun k ρ w' => ρ 0 = .int .i64 n ∧ ρ 3 = .int .i64 (k : Int) ∧ Ch [] w w' ∧ (k : Int) ≤ (n + 63) / 64) (fun k => (n + 64 - k).toNat) 0 ?_ ?_
  · exact ⟨rfl, rfl, (Ch.refl [] w), by omega⟩
  rintro k ρ w' ⟨y0, y3, hc, hk⟩
  refine sq (sq (rg (r (mv y0) (r (mv y3) (r (ml ((k : Int) * 64) rfl rfl (by omega)) (r (bi rfl rfl rfl) (re ?_)))))))
  refine cp rfl (fun h => ?_) (fun h => ?_)
  · refine sk (bl (rg (r (mv y3) (r (ad ((k : Int) + 1) rfl rfl (by omega)) (r (sa rfl) (re (be ?_)))))))
    exact ag (k + 1) ⟨y0, rfl, hc, by omega⟩ (by first | omega | (dsimp only; omega))
  · refine ex rfl (sq (rg (r (mv y3) (r (sa rfl) (re (rt ?_))))))
    exact fin1 (v := .int .i64 (k : Int)) Try.results94 rfl ⟨congrArg (Value.int .i64) (by omega), hc⟩
/-- The places of a geometry: payload, tables, log, blocks, cap. -/
def tabs (s b : Int) : Int := (2 * (s * b) + 63) / 64
def logs (s b : Int) : Int := 2 * (1 + tabs s b)
def lay (s b : Int) : List Int := if geo s b then [s * b, tabs s b, logs s b, logs s b + s * b, s * b - 2 * b] else [0, 0, 0, 0, 0]
theorem geo_mul {s b : Int} (h : geo s b) : 0 ≤ s * b ∧ s * b ≤ 1024 := by
  obtain ⟨h1, h2, h3, h4⟩ := h
  exact ⟨Int.mul_nonneg (by omega) (by omega), Int.le_trans (Int.mul_le_mul h2 h4 (by omega) (by omega)) (by omega)⟩
theorem spec_Layout {w : World} {s b : Int} : Ret Try.prog 29 #[.agg #[.int .i64 s, .int .i64 b]] w (fun r w' => r = .agg ((lay s b).map (Value.int .i64)).toArray ∧ Ch [] w w') := by
  refine enter Try.func29 rfl Try.ntmps29 (by rfl) (by rfl) ?_
  refine sq (rg (bx rfl ?_))
  intro g1 wg1 eg1 sg1 bg1 cg1
  have qg1 := le_new (Ch.refl [] w).size eg1
  have hcg1 : Ch [] w wg1 := (Ch.refl [] w).t cg1
  replace bg1 : B wg1 g1 34 ([.int .i64 s, .int .i64 b]) := bg1
  refine al ti32 ?_
  intro g2 wg2 eg2 sg2 bg2 cg2
  have ng1_g2 := ne_new bg1.lt eg2
  have qg2 := le_new hcg1.size eg2
  replace bg1 := cg2.b0 bg1
  have hcg2 : Ch [] w wg2 := hcg1.t cg2
  replace bg2 : B wg2 g2 32 ([.int .i64 0, .int .i64 0, .int .i64 0, .int .i64 0, .int .i64 0]) := bg2
  refine re (sq (sq (rg (r (lab [.int .i64 s, .int .i64 b] Try.underlying34 rfl ti34 rfl bg1 rfl rfl) (cl go93 (l3Good) (ac rfl an) ?_)))))
  rintro r wa ⟨rfl, ca⟩
  replace bg1 := ca.b0 bg1
  replace bg2 := ca.b0 bg2
  have hca : Ch [] w wa := hcg2.t ca
  refine r (nt rfl) (re ?_)
  refine cpn rfl (fun h => ?_) (fun h => ?_)
  · refine sq (rg (r (bd (r := [.int .i64 0, .int .i64 0, .int .i64 0, .int .i64 0, .int .i64 0]) ti32 pl32 pn rfl) (st ti32 rfl rfl bg2 rfl (Nat.le_of_ble_eq_true rfl) (one_all rfl) ?_)))
    intro wS1g2 sS1g2 bg2 cS1g2
    replace bg1 := cS1g2.b bg1 (nin1 ng1_g2)
    have hcS1g2 : Ch [] w wS1g2 := hca.own cS1g2 qg2
    replace bg2 : B wS1g2 g2 32 ([.int .i64 0, .int .i64 0, .int .i64 0, .int .i64 0, .int .i64 0]) := bg2
    refine re (rt ?_)
    exact finc  (cs := [.int .i64 0, .int .i64 0, .int .i64 0, .int .i64 0, .int .i64 0]) Try.results29 Try.underlying32 rfl ti32 rfl bg2 rfl  ⟨by rw [lay, if_neg h]; rfl, hcS1g2⟩
  · obtain ⟨hm1, hm2⟩ := geo_mul h
    have ht : 0 ≤ tabs s b ∧ tabs s b ≤ 33 := by unfold tabs; omega
    have hg := h
    obtain ⟨hg1, hg2, hg3, hg4⟩ := hg
    refine sk (sq (rg (r (fa Try.underlying34 rfl ti2 rfl rfl) (r (ldb Try.underlying2 rfl rfl bg1 rfl) (r (fa Try.underlying34 rfl ti2 rfl rfl) (r (ldb Try.underlying2 rfl rfl bg1 rfl) (r (ml (s * b) rfl rfl (by omega)) (r (bd (r := [.int .i64 (s * b), .int .i64 0, .int .i64 0, .int .i64 0, .int .i64 0]) ti32 pl32 (pc rfl (cel1 rfl) pn) rfl) (al ti32 ?_)))))))))
    intro g3 wg3 eg3 sg3 bg3 cg3
    have ng1_g3 := ne_new bg1.lt eg3
    have ng2_g3 := ne_new bg2.lt eg3
    have qg3 := le_new hca.size eg3
    replace bg1 := cg3.b0 bg1
    replace bg2 := cg3.b0 bg2
    have hcg3 : Ch [] w wg3 := hca.t cg3
    replace bg3 : B wg3 g3 32 ([.int .i64 0, .int .i64 0, .int .i64 0, .int .i64 0, .int .i64 0]) := bg3
    refine st ti32 rfl rfl bg3 rfl (Nat.le_of_ble_eq_true rfl) (one_all rfl) ?_
    intro wS7g3 sS7g3 bg3 cS7g3
    replace bg1 := cS7g3.b bg1 (nin1 ng1_g3)
    replace bg2 := cS7g3.b bg2 (nin1 ng2_g3)
    have hcS7g3 : Ch [] w wS7g3 := hcg3.own cS7g3 qg3
    replace bg3 : B wS7g3 g3 32 ([.int .i64 (s * b), .int .i64 0, .int .i64 0, .int .i64 0, .int .i64 0]) := bg3
    refine re (sq ?_)
    refine gen (fun ρ => ρ 1 = .pointer (some ⟨g1, 0, none⟩) ∧ ρ 2 = .pointer (some ⟨g2, 0, none⟩) ∧ ρ 3 = .pointer (some ⟨g3, 0, none⟩) ∧ True) ⟨rfl, rfl, rfl, trivial⟩ ?_
    rintro ρ ⟨z1, z2, z3, -⟩
    refine rg (r (fa Try.underlying32 rfl ti2 rfl z3) (r (ldb Try.underlying2 rfl rfl bg3 rfl) (r (ml (2 * (s * b)) rfl rfl (by omega)) (cl go94 (l2Blocks (by omega)) (ac rfl an) ?_))))
    rintro r wt ⟨rfl, ct⟩
    replace bg1 := ct.b0 bg1
    replace bg2 := ct.b0 bg2
    replace bg3 := ct.b0 bg3
    have hct : Ch [] w wt := hcS7g3.t ct
    refine r (fa Try.underlying32 rfl ti2 rfl z3) (st ti2 rfl rfl bg3 rfl (Nat.le_of_ble_eq_true rfl) (one_all rfl) ?_)
    intro wS5g3 sS5g3 bg3 cS5g3
    replace bg1 := cS5g3.b bg1 (nin1 ng1_g3)
    replace bg2 := cS5g3.b bg2 (nin1 ng2_g3)
    have hcS5g3 : Ch [] w wS5g3 := hct.own cS5g3 qg3
    replace bg3 : B wS5g3 g3 32 ([.int .i64 (s * b), .int .i64 (tabs s b), .int .i64 0, .int .i64 0, .int .i64 0]) := bg3
    refine re (sq (rg (r (fa Try.underlying32 rfl ti2 rfl z3) (r (ldb Try.underlying2 rfl rfl bg3 rfl) (r (ad (1 + (tabs s b)) rfl rfl (by omega)) (r (ml (2 * (1 + (tabs s b))) rfl rfl (by omega)) (r (fa Try.underlying32 rfl ti2 rfl z3) (st ti2 rfl rfl bg3 rfl (Nat.le_of_ble_eq_true rfl) (one_all rfl) ?_))))))))
    intro wS5g3 sS5g3 bg3 cS5g3
    replace bg1 := cS5g3.b bg1 (nin1 ng1_g3)
    replace bg2 := cS5g3.b bg2 (nin1 ng2_g3)
    have hcS5g3 : Ch [] w wS5g3 := hcS5g3.own cS5g3 qg3
    replace bg3 : B wS5g3 g3 32 ([.int .i64 (s * b), .int .i64 (tabs s b), .int .i64 (2 * (1 + (tabs s b))), .int .i64 0, .int .i64 0]) := bg3
    refine re (sq ?_)
    refine gen (fun ρ => ρ 1 = .pointer (some ⟨g1, 0, none⟩) ∧ ρ 2 = .pointer (some ⟨g2, 0, none⟩) ∧ ρ 3 = .pointer (some ⟨g3, 0, none⟩) ∧ True) ⟨z1, z2, z3, trivial⟩ ?_
    rintro ρ ⟨z1, z2, z3, -⟩
    refine rg (r (fa Try.underlying32 rfl ti2 rfl z3) (r (ldb Try.underlying2 rfl rfl bg3 rfl) (r (fa Try.underlying32 rfl ti2 rfl z3) (r (ldb Try.underlying2 rfl rfl bg3 rfl) (r (ad ((2 * (1 + (tabs s b))) + (s * b)) rfl rfl (by omega)) (r (fa Try.underlying32 rfl ti2 rfl z3) (st ti2 rfl rfl bg3 rfl (Nat.le_of_ble_eq_true rfl) (one_all rfl) ?_)))))))
    intro wS6g3 sS6g3 bg3 cS6g3
    replace bg1 := cS6g3.b bg1 (nin1 ng1_g3)
    replace bg2 := cS6g3.b bg2 (nin1 ng2_g3)
    have hcS6g3 : Ch [] w wS6g3 := hcS5g3.own cS6g3 qg3
    replace bg3 : B wS6g3 g3 32 ([.int .i64 (s * b), .int .i64 (tabs s b), .int .i64 (2 * (1 + (tabs s b))), .int .i64 ((2 * (1 + (tabs s b))) + (s * b)), .int .i64 0]) := bg3
    refine re (sq (rg (r (fa Try.underlying32 rfl ti2 rfl z3) (r (ldb Try.underlying2 rfl rfl bg3 rfl) (r (fa Try.underlying34 rfl ti2 rfl z1) (r (ldb Try.underlying2 rfl rfl bg1 rfl) (r (ml (2 * b) rfl rfl (by omega)) (r (sb ((s * b) - (2 * b)) rfl rfl (by omega)) (r (fa Try.underlying32 rfl ti2 rfl z3) (st ti2 rfl rfl bg3 rfl (Nat.le_of_ble_eq_true rfl) (one_all rfl) ?_))))))))))
    intro wS7g3 sS7g3 bg3 cS7g3
    replace bg1 := cS7g3.b bg1 (nin1 ng1_g3)
    replace bg2 := cS7g3.b bg2 (nin1 ng2_g3)
    have hcS7g3 : Ch [] w wS7g3 := hcS6g3.own cS7g3 qg3
    replace bg3 : B wS7g3 g3 32 ([.int .i64 (s * b), .int .i64 (tabs s b), .int .i64 (2 * (1 + (tabs s b))), .int .i64 ((2 * (1 + (tabs s b))) + (s * b)), .int .i64 ((s * b) - (2 * b))]) := bg3
    refine re (sq ?_)
    refine gen (fun ρ => ρ 2 = .pointer (some ⟨g2, 0, none⟩) ∧ ρ 3 = .pointer (some ⟨g3, 0, none⟩) ∧ True) ⟨z2, z3, trivial⟩ ?_
    rintro ρ ⟨z2, z3, -⟩
    refine rg (r (lab [.int .i64 (s * b), .int .i64 (tabs s b), .int .i64 (2 * (1 + (tabs s b))), .int .i64 ((2 * (1 + (tabs s b))) + (s * b)), .int .i64 ((s * b) - (2 * b))] Try.underlying32 rfl ti32 z3 bg3 rfl rfl) (st ti32 z2 rfl bg2 rfl (Nat.le_of_ble_eq_true rfl) (one_all rfl) ?_))
    intro wS1g2 sS1g2 bg2 cS1g2
    replace bg1 := cS1g2.b bg1 (nin1 ng1_g2)
    replace bg3 := cS1g2.b bg3 (nin1 ng2_g3.symm)
    have hcS1g2 : Ch [] w wS1g2 := hcS7g3.own cS1g2 qg2
    replace bg2 : B wS1g2 g2 32 ([.int .i64 (s * b), .int .i64 (tabs s b), .int .i64 (2 * (1 + (tabs s b))), .int .i64 ((2 * (1 + (tabs s b))) + (s * b)), .int .i64 ((s * b) - (2 * b))]) := bg2
    refine re (rt ?_)
    exact finc  (cs := [.int .i64 (s * b), .int .i64 (tabs s b), .int .i64 (2 * (1 + (tabs s b))), .int .i64 ((2 * (1 + (tabs s b))) + (s * b)), .int .i64 ((s * b) - (2 * b))]) Try.results29 Try.underlying32 rfl ti32 z2 bg2 rfl  ⟨by rw [lay, if_pos h]; rfl, hcS1g2⟩
theorem impl_Layout {w : World} {s b : Int} : Ret Try.prog 31 #[.agg #[.int .i64 s, .int .i64 b]] w (fun r w' => r = .agg ((lay s b).map (Value.int .i64)).toArray ∧ Ch [] w w') := by
  refine enter Try.func31 rfl Try.ntmps31 (by rfl) (by rfl) ?_
  refine sq (rg (bx rfl ?_))
  intro g1 wg1 eg1 sg1 bg1 cg1
  have qg1 := le_new (Ch.refl [] w).size eg1
  have hcg1 : Ch [] w wg1 := (Ch.refl [] w).t cg1
  replace bg1 : B wg1 g1 34 ([.int .i64 s, .int .i64 b]) := bg1
  refine al ti32 ?_
  intro g2 wg2 eg2 sg2 bg2 cg2
  have ng1_g2 := ne_new bg1.lt eg2
  have qg2 := le_new hcg1.size eg2
  replace bg1 := cg2.b0 bg1
  have hcg2 : Ch [] w wg2 := hcg1.t cg2
  replace bg2 : B wg2 g2 32 ([.int .i64 0, .int .i64 0, .int .i64 0, .int .i64 0, .int .i64 0]) := bg2
  refine re (sq (sq (rg (r (lab [.int .i64 s, .int .i64 b] Try.underlying34 rfl ti34 rfl bg1 rfl rfl) (cl go95 (valid) (ac rfl an) ?_)))))
  rintro r wa ⟨rfl, ca⟩
  replace bg1 := ca.b0 bg1
  replace bg2 := ca.b0 bg2
  have hca : Ch [] w wa := hcg2.t ca
  refine r (nt rfl) (re ?_)
  refine cpn rfl (fun h => ?_) (fun h => ?_)
  · refine sq (rg (r (bd (r := [.int .i64 0, .int .i64 0, .int .i64 0, .int .i64 0, .int .i64 0]) ti32 pl32 pn rfl) (st ti32 rfl rfl bg2 rfl (Nat.le_of_ble_eq_true rfl) (one_all rfl) ?_)))
    intro wS1g2 sS1g2 bg2 cS1g2
    replace bg1 := cS1g2.b bg1 (nin1 ng1_g2)
    have hcS1g2 : Ch [] w wS1g2 := hca.own cS1g2 qg2
    replace bg2 : B wS1g2 g2 32 ([.int .i64 0, .int .i64 0, .int .i64 0, .int .i64 0, .int .i64 0]) := bg2
    refine re (rt ?_)
    exact finc  (cs := [.int .i64 0, .int .i64 0, .int .i64 0, .int .i64 0, .int .i64 0]) Try.results31 Try.underlying32 rfl ti32 rfl bg2 rfl  ⟨by rw [lay, if_neg h]; rfl, hcS1g2⟩
  · obtain ⟨hm1, hm2⟩ := geo_mul h
    have ht : 0 ≤ tabs s b ∧ tabs s b ≤ 33 := by unfold tabs; omega
    have hg := h
    obtain ⟨hg1, hg2, hg3, hg4⟩ := hg
    refine sk (sq (rg (r (fa Try.underlying34 rfl ti2 rfl rfl) (r (ldb Try.underlying2 rfl rfl bg1 rfl) (r (fa Try.underlying34 rfl ti2 rfl rfl) (r (ldb Try.underlying2 rfl rfl bg1 rfl) (r (ml (s * b) rfl rfl (by omega)) (r (bd (r := [.int .i64 (s * b), .int .i64 0, .int .i64 0, .int .i64 0, .int .i64 0]) ti32 pl32 (pc rfl (cel1 rfl) pn) rfl) (al ti32 ?_)))))))))
    intro g3 wg3 eg3 sg3 bg3 cg3
    have ng1_g3 := ne_new bg1.lt eg3
    have ng2_g3 := ne_new bg2.lt eg3
    have qg3 := le_new hca.size eg3
    replace bg1 := cg3.b0 bg1
    replace bg2 := cg3.b0 bg2
    have hcg3 : Ch [] w wg3 := hca.t cg3
    replace bg3 : B wg3 g3 32 ([.int .i64 0, .int .i64 0, .int .i64 0, .int .i64 0, .int .i64 0]) := bg3
    refine st ti32 rfl rfl bg3 rfl (Nat.le_of_ble_eq_true rfl) (one_all rfl) ?_
    intro wS7g3 sS7g3 bg3 cS7g3
    replace bg1 := cS7g3.b bg1 (nin1 ng1_g3)
    replace bg2 := cS7g3.b bg2 (nin1 ng2_g3)
    have hcS7g3 : Ch [] w wS7g3 := hcg3.own cS7g3 qg3
    replace bg3 : B wS7g3 g3 32 ([.int .i64 (s * b), .int .i64 0, .int .i64 0, .int .i64 0, .int .i64 0]) := bg3
    refine re (sq ?_)
    refine gen (fun ρ => ρ 1 = .pointer (some ⟨g1, 0, none⟩) ∧ ρ 2 = .pointer (some ⟨g2, 0, none⟩) ∧ ρ 3 = .pointer (some ⟨g3, 0, none⟩) ∧ True) ⟨rfl, rfl, rfl, trivial⟩ ?_
    rintro ρ ⟨z1, z2, z3, -⟩
    refine rg (r (fa Try.underlying32 rfl ti2 rfl z3) (r (ldb Try.underlying2 rfl rfl bg3 rfl) (r (ml (2 * (s * b)) rfl rfl (by omega)) (r (ad ((2 * (s * b)) + 64) rfl rfl (by omega)) (r (sb (((2 * (s * b)) + 64) - 1) rfl rfl (by omega)) (r (dv (tabs s b) rfl rfl (by rw [Int.tdiv_eq_ediv_of_nonneg (by omega)]; unfold tabs; omega)) (r (fa Try.underlying32 rfl ti2 rfl z3) (st ti2 rfl rfl bg3 rfl (Nat.le_of_ble_eq_true rfl) (one_all rfl) ?_))))))))
    intro wS7g3 sS7g3 bg3 cS7g3
    replace bg1 := cS7g3.b bg1 (nin1 ng1_g3)
    replace bg2 := cS7g3.b bg2 (nin1 ng2_g3)
    have hcS7g3 : Ch [] w wS7g3 := hcS7g3.own cS7g3 qg3
    replace bg3 : B wS7g3 g3 32 ([.int .i64 (s * b), .int .i64 (tabs s b), .int .i64 0, .int .i64 0, .int .i64 0]) := bg3
    refine re (sq (rg (r (fa Try.underlying32 rfl ti2 rfl z3) (r (ldb Try.underlying2 rfl rfl bg3 rfl) (r (ad (1 + (tabs s b)) rfl rfl (by omega)) (r (ml (2 * (1 + (tabs s b))) rfl rfl (by omega)) (r (fa Try.underlying32 rfl ti2 rfl z3) (st ti2 rfl rfl bg3 rfl (Nat.le_of_ble_eq_true rfl) (one_all rfl) ?_))))))))
    intro wS5g3 sS5g3 bg3 cS5g3
    replace bg1 := cS5g3.b bg1 (nin1 ng1_g3)
    replace bg2 := cS5g3.b bg2 (nin1 ng2_g3)
    have hcS5g3 : Ch [] w wS5g3 := hcS7g3.own cS5g3 qg3
    replace bg3 : B wS5g3 g3 32 ([.int .i64 (s * b), .int .i64 (tabs s b), .int .i64 (2 * (1 + (tabs s b))), .int .i64 0, .int .i64 0]) := bg3
    refine re (sq ?_)
    refine gen (fun ρ => ρ 1 = .pointer (some ⟨g1, 0, none⟩) ∧ ρ 2 = .pointer (some ⟨g2, 0, none⟩) ∧ ρ 3 = .pointer (some ⟨g3, 0, none⟩) ∧ True) ⟨z1, z2, z3, trivial⟩ ?_
    rintro ρ ⟨z1, z2, z3, -⟩
    refine rg (r (fa Try.underlying32 rfl ti2 rfl z3) (r (ldb Try.underlying2 rfl rfl bg3 rfl) (r (fa Try.underlying32 rfl ti2 rfl z3) (r (ldb Try.underlying2 rfl rfl bg3 rfl) (r (ad ((2 * (1 + (tabs s b))) + (s * b)) rfl rfl (by omega)) (r (fa Try.underlying32 rfl ti2 rfl z3) (st ti2 rfl rfl bg3 rfl (Nat.le_of_ble_eq_true rfl) (one_all rfl) ?_)))))))
    intro wS6g3 sS6g3 bg3 cS6g3
    replace bg1 := cS6g3.b bg1 (nin1 ng1_g3)
    replace bg2 := cS6g3.b bg2 (nin1 ng2_g3)
    have hcS6g3 : Ch [] w wS6g3 := hcS5g3.own cS6g3 qg3
    replace bg3 : B wS6g3 g3 32 ([.int .i64 (s * b), .int .i64 (tabs s b), .int .i64 (2 * (1 + (tabs s b))), .int .i64 ((2 * (1 + (tabs s b))) + (s * b)), .int .i64 0]) := bg3
    refine re (sq (rg (r (fa Try.underlying32 rfl ti2 rfl z3) (r (ldb Try.underlying2 rfl rfl bg3 rfl) (r (fa Try.underlying34 rfl ti2 rfl z1) (r (ldb Try.underlying2 rfl rfl bg1 rfl) (r (ml (2 * b) rfl rfl (by omega)) (r (sb ((s * b) - (2 * b)) rfl rfl (by omega)) (r (fa Try.underlying32 rfl ti2 rfl z3) (st ti2 rfl rfl bg3 rfl (Nat.le_of_ble_eq_true rfl) (one_all rfl) ?_))))))))))
    intro wS7g3 sS7g3 bg3 cS7g3
    replace bg1 := cS7g3.b bg1 (nin1 ng1_g3)
    replace bg2 := cS7g3.b bg2 (nin1 ng2_g3)
    have hcS7g3 : Ch [] w wS7g3 := hcS6g3.own cS7g3 qg3
    replace bg3 : B wS7g3 g3 32 ([.int .i64 (s * b), .int .i64 (tabs s b), .int .i64 (2 * (1 + (tabs s b))), .int .i64 ((2 * (1 + (tabs s b))) + (s * b)), .int .i64 ((s * b) - (2 * b))]) := bg3
    refine re (sq ?_)
    refine gen (fun ρ => ρ 2 = .pointer (some ⟨g2, 0, none⟩) ∧ ρ 3 = .pointer (some ⟨g3, 0, none⟩) ∧ True) ⟨z2, z3, trivial⟩ ?_
    rintro ρ ⟨z2, z3, -⟩
    refine rg (r (lab [.int .i64 (s * b), .int .i64 (tabs s b), .int .i64 (2 * (1 + (tabs s b))), .int .i64 ((2 * (1 + (tabs s b))) + (s * b)), .int .i64 ((s * b) - (2 * b))] Try.underlying32 rfl ti32 z3 bg3 rfl rfl) (st ti32 z2 rfl bg2 rfl (Nat.le_of_ble_eq_true rfl) (one_all rfl) ?_))
    intro wS1g2 sS1g2 bg2 cS1g2
    replace bg1 := cS1g2.b bg1 (nin1 ng1_g2)
    replace bg3 := cS1g2.b bg3 (nin1 ng2_g3.symm)
    have hcS1g2 : Ch [] w wS1g2 := hcS7g3.own cS1g2 qg2
    replace bg2 : B wS1g2 g2 32 ([.int .i64 (s * b), .int .i64 (tabs s b), .int .i64 (2 * (1 + (tabs s b))), .int .i64 ((2 * (1 + (tabs s b))) + (s * b)), .int .i64 ((s * b) - (2 * b))]) := bg2
    refine re (rt ?_)
    exact finc  (cs := [.int .i64 (s * b), .int .i64 (tabs s b), .int .i64 (2 * (1 + (tabs s b))), .int .i64 ((2 * (1 + (tabs s b))) + (s * b)), .int .i64 ((s * b) - (2 * b))]) Try.results31 Try.underlying32 rfl ti32 z2 bg2 rfl  ⟨by rw [lay, if_pos h]; rfl, hcS1g2⟩
theorem eqPlaces {w : World} {a0 a1 a2 a3 a4 b0 b1 b2 b3 b4 : Int} : Ret Try.prog 32 #[.agg #[.int .i64 a0, .int .i64 a1, .int .i64 a2, .int .i64 a3, .int .i64 a4], .agg #[.int .i64 b0, .int .i64 b1, .int .i64 b2, .int .i64 b3, .int .i64 b4]] w
    (fun r w' => r = .bool (decide (a0 = b0 ∧ a1 = b1 ∧ a2 = b2 ∧ a3 = b3 ∧ a4 = b4)) ∧ Ch [] w w') := by
  refine enter Try.func32 rfl Try.ntmps32 (by rfl) (by rfl) ?_
  refine sq (rg (bx rfl ?_))
  intro g2 wg2 eg2 sg2 bg2 cg2
  have qg2 := le_new (Ch.refl [] w).size eg2
  have hcg2 : Ch [] w wg2 := (Ch.refl [] w).t cg2
  replace bg2 : B wg2 g2 32 ([.int .i64 a0, .int .i64 a1, .int .i64 a2, .int .i64 a3, .int .i64 a4]) := bg2
  refine bx rfl ?_
  intro g3 wg3 eg3 sg3 bg3 cg3
  have ng2_g3 := ne_new bg2.lt eg3
  have qg3 := le_new hcg2.size eg3
  replace bg2 := cg3.b0 bg2
  have hcg3 : Ch [] w wg3 := hcg2.t cg3
  replace bg3 : B wg3 g3 32 ([.int .i64 b0, .int .i64 b1, .int .i64 b2, .int .i64 b3, .int .i64 b4]) := bg3
  refine r (sa rfl) (re (sq (sq (rg (r (fa Try.underlying32 rfl ti2 rfl rfl) (r (ldb Try.underlying2 rfl rfl bg2 rfl) (r (fa Try.underlying32 rfl ti2 rfl rfl) (r (ldb Try.underlying2 rfl rfl bg3 rfl) (r (bi rfl rfl rfl) (re ?_))))))))))
  refine cpn rfl (fun h0 => ?_) (fun h0 => ?_)
  · refine sq (rg (r (sa rfl) (re (rt ?_))))
    exact fin1 (v := .bool false) Try.results32 rfl ⟨congrArg Value.bool (decide_eq_false (fun e => h0 (by omega))).symm, hcg3⟩
  · refine sk (sq (sq (rg (r (fa Try.underlying32 rfl ti2 rfl rfl) (r (ldb Try.underlying2 rfl rfl bg2 rfl) (r (fa Try.underlying32 rfl ti2 rfl rfl) (r (ldb Try.underlying2 rfl rfl bg3 rfl) (r (bi rfl rfl rfl) (re ?_)))))))))
    refine cpn rfl (fun h1 => ?_) (fun h1 => ?_)
    · refine sq ?_
      refine gen (fun ρ => ρ 2 = .pointer (some ⟨g2, 0, none⟩) ∧ ρ 3 = .pointer (some ⟨g3, 0, none⟩) ∧ ρ 4 = .bool false ∧ True) ⟨rfl, rfl, rfl, trivial⟩ ?_
      rintro ρ ⟨z2, z3, z4, -⟩
      refine rg (r (sa rfl) (re (rt ?_)))
      exact fin1 (v := .bool false) Try.results32 rfl ⟨congrArg Value.bool (decide_eq_false (fun e => h1 (by omega))).symm, hcg3⟩
    · refine sk (sq (sq ?_))
      refine gen (fun ρ => ρ 2 = .pointer (some ⟨g2, 0, none⟩) ∧ ρ 3 = .pointer (some ⟨g3, 0, none⟩) ∧ ρ 4 = .bool false ∧ True) ⟨rfl, rfl, rfl, trivial⟩ ?_
      rintro ρ ⟨z2, z3, z4, -⟩
      refine rg (r (fa Try.underlying32 rfl ti2 rfl z2) (r (ldb Try.underlying2 rfl rfl bg2 rfl) (r (fa Try.underlying32 rfl ti2 rfl z3) (r (ldb Try.underlying2 rfl rfl bg3 rfl) (r (bi rfl rfl rfl) (re ?_))))))
      refine cpn rfl (fun h2 => ?_) (fun h2 => ?_)
      · refine sq (rg (r (sa rfl) (re (rt ?_))))
        exact fin1 (v := .bool false) Try.results32 rfl ⟨congrArg Value.bool (decide_eq_false (fun e => h2 (by omega))).symm, hcg3⟩
      · refine sk (sq (sq (rg (r (fa Try.underlying32 rfl ti2 rfl z2) (r (ldb Try.underlying2 rfl rfl bg2 rfl) (r (fa Try.underlying32 rfl ti2 rfl z3) (r (ldb Try.underlying2 rfl rfl bg3 rfl) (r (bi rfl rfl rfl) (re ?_)))))))))
        refine cpn rfl (fun h3 => ?_) (fun h3 => ?_)
        · refine sq ?_
          refine gen (fun ρ => ρ 2 = .pointer (some ⟨g2, 0, none⟩) ∧ ρ 3 = .pointer (some ⟨g3, 0, none⟩) ∧ ρ 4 = .bool false ∧ True) ⟨z2, z3, z4, trivial⟩ ?_
          rintro ρ ⟨z2, z3, z4, -⟩
          refine rg (r (sa rfl) (re (rt ?_)))
          exact fin1 (v := .bool false) Try.results32 rfl ⟨congrArg Value.bool (decide_eq_false (fun e => h3 (by omega))).symm, hcg3⟩
        · refine sk (sq (sq ?_))
          refine gen (fun ρ => ρ 2 = .pointer (some ⟨g2, 0, none⟩) ∧ ρ 3 = .pointer (some ⟨g3, 0, none⟩) ∧ ρ 4 = .bool false ∧ True) ⟨z2, z3, z4, trivial⟩ ?_
          rintro ρ ⟨z2, z3, z4, -⟩
          refine rg (r (fa Try.underlying32 rfl ti2 rfl z2) (r (ldb Try.underlying2 rfl rfl bg2 rfl) (r (fa Try.underlying32 rfl ti2 rfl z3) (r (ldb Try.underlying2 rfl rfl bg3 rfl) (r (bi rfl rfl rfl) (re ?_))))))
          refine cpn rfl (fun h4 => ?_) (fun h4 => ?_)
          · refine sq (rg (r (sa rfl) (re (rt ?_))))
            exact fin1 (v := .bool false) Try.results32 rfl ⟨congrArg Value.bool (decide_eq_false (fun e => h4 (by omega))).symm, hcg3⟩
          · refine sk (sq (rg (r (sa rfl) (re (rt ?_)))))
            exact fin1 (v := .bool true) Try.results32 rfl ⟨congrArg Value.bool (decide_eq_true ⟨h0, h1, h2, h3, h4⟩).symm, hcg3⟩
theorem w_FnExactLayout {w : World} {s b : Int} : Ret Try.prog 5 #[.agg #[.int .i64 s, .int .i64 b]] w (fun r w' => r = .bool true ∧ Ch [] w w') := by
  refine enter Try.func5 rfl Try.ntmps5 (by rfl) (by rfl) ?_
  obtain ⟨l0, l1, l2, l3, l4, hl⟩ : ∃ l0 l1 l2 l3 l4, lay s b = [l0, l1, l2, l3, l4] := by
    unfold lay; split <;> exact ⟨_, _, _, _, _, rfl⟩
  have hL : ((lay s b).map (Value.int .i64)).toArray = #[.int .i64 l0, .int .i64 l1, .int .i64 l2, .int .i64 l3, .int .i64 l4] := by rw [hl]; rfl
  refine sq (rg (bx rfl ?_))
  intro g1 wg1 eg1 sg1 bg1 cg1
  have qg1 := le_new (Ch.refl [] w).size eg1
  have hcg1 : Ch [] w wg1 := (Ch.refl [] w).t cg1
  replace bg1 : B wg1 g1 30 ([.int .i64 s, .int .i64 b]) := bg1
  refine r (sa rfl) (re (sq (rg (r (lab [.int .i64 s, .int .i64 b] Try.underlying30 rfl ti30 rfl bg1 rfl rfl) (cl go30 (toGeometry) (ac rfl an) ?_)))))
  rintro r wa ⟨rfl, ca⟩
  replace bg1 := ca.b0 bg1
  have hca : Ch [] w wa := hcg1.t ca
  refine cl go29 (spec_Layout) (ac rfl an) ?_
  rintro r wb ⟨er, cb⟩
  rw [hL] at er
  subst er
  replace bg1 := cb.b0 bg1
  have hcb : Ch [] w wb := hca.t cb
  refine al ti32 ?_
  intro g3 wg3 eg3 sg3 bg3 cg3
  have ng1_g3 := ne_new bg1.lt eg3
  have qg3 := le_new hcb.size eg3
  replace bg1 := cg3.b0 bg1
  have hcg3 : Ch [] w wg3 := hcb.t cg3
  replace bg3 : B wg3 g3 32 ([.int .i64 0, .int .i64 0, .int .i64 0, .int .i64 0, .int .i64 0]) := bg3
  refine st ti32 rfl rfl bg3 rfl (Nat.le_of_ble_eq_true rfl) (one_all rfl) ?_
  intro wS4g3 sS4g3 bg3 cS4g3
  replace bg1 := cS4g3.b bg1 (nin1 ng1_g3)
  have hcS4g3 : Ch [] w wS4g3 := hcg3.own cS4g3 qg3
  replace bg3 : B wS4g3 g3 32 ([.int .i64 l0, .int .i64 l1, .int .i64 l2, .int .i64 l3, .int .i64 l4]) := bg3
  refine re (sq (rg (r (lab [.int .i64 s, .int .i64 b] Try.underlying30 rfl ti30 rfl bg1 rfl rfl) (cl go30 (toGeometry) (ac rfl an) ?_))))
  rintro r wc ⟨rfl, cc⟩
  replace bg1 := cc.b0 bg1
  replace bg3 := cc.b0 bg3
  have hcc : Ch [] w wc := hcS4g3.t cc
  refine cl go31 (impl_Layout) (ac rfl an) ?_
  rintro r wd ⟨er, cd⟩
  rw [hL] at er
  subst er
  replace bg1 := cd.b0 bg1
  replace bg3 := cd.b0 bg3
  have hcd : Ch [] w wd := hcc.t cd
  refine al ti32 ?_
  intro g4 wg4 eg4 sg4 bg4 cg4
  have ng1_g4 := ne_new bg1.lt eg4
  have ng3_g4 := ne_new bg3.lt eg4
  have qg4 := le_new hcd.size eg4
  replace bg1 := cg4.b0 bg1
  replace bg3 := cg4.b0 bg3
  have hcg4 : Ch [] w wg4 := hcd.t cg4
  replace bg4 : B wg4 g4 32 ([.int .i64 0, .int .i64 0, .int .i64 0, .int .i64 0, .int .i64 0]) := bg4
  refine st ti32 rfl rfl bg4 rfl (Nat.le_of_ble_eq_true rfl) (one_all rfl) ?_
  intro wS4g4 sS4g4 bg4 cS4g4
  replace bg1 := cS4g4.b bg1 (nin1 ng1_g4)
  replace bg3 := cS4g4.b bg3 (nin1 ng3_g4)
  have hcS4g4 : Ch [] w wS4g4 := hcg4.own cS4g4 qg4
  replace bg4 : B wS4g4 g4 32 ([.int .i64 l0, .int .i64 l1, .int .i64 l2, .int .i64 l3, .int .i64 l4]) := bg4
  refine re (sq (sq ?_))
  refine gen (fun ρ => ρ 2 = .bool false ∧ ρ 3 = .pointer (some ⟨g3, 0, none⟩) ∧ ρ 4 = .pointer (some ⟨g4, 0, none⟩) ∧ True) ⟨rfl, rfl, rfl, trivial⟩ ?_
  rintro ρ ⟨z2, z3, z4, -⟩
  refine rg (r (lab [.int .i64 l0, .int .i64 l1, .int .i64 l2, .int .i64 l3, .int .i64 l4] Try.underlying32 rfl ti32 z4 bg4 rfl rfl) (r (lab [.int .i64 l0, .int .i64 l1, .int .i64 l2, .int .i64 l3, .int .i64 l4] Try.underlying32 rfl ti32 z3 bg3 rfl rfl) (cl go32 (eqPlaces) (ac rfl (ac rfl an)) ?_)))
  rintro r we ⟨rfl, ce⟩
  replace bg1 := ce.b0 bg1
  replace bg3 := ce.b0 bg3
  replace bg4 := ce.b0 bg4
  have hce : Ch [] w we := hcS4g4.t ce
  refine r (nt rfl) (re ?_)
  refine cf (by show Value.bool (!decide (_ ∧ _)) = _; rw [decide_eq_true ⟨rfl, rfl, rfl, rfl, rfl⟩]; rfl) ?_
  refine sk (sq (rg (r (sa rfl) (re (rt ?_)))))
  exact fin1 (v := .bool true) Try.results5 rfl ⟨rfl, hce⟩
end Go.Proofs.Ytgpcanjmgdmdhaa
