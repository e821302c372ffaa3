/-
  THE LAW'S WALK: NewDisk. No condition.
-/
import Derived.Test.Ytgpcanjmgdmdhaa8
namespace Go.Proofs.Ytgpcanjmgdmdhaa
open Go Go.Eng
set_option maxRecDepth 100000
set_option maxHeartbeats 4000000
set_option linter.unusedVariables false
theorem zer_len (b : Int) : (zer b).length ≤ 76800 := by
  unfold zer; split
  · rw [List.length_replicate]; omega
  · simp
theorem w_FnExactNewDisk {w : World} {b : Int} : Ret Try.prog 7 #[.int .i64 b] w (fun r w' => r = .bool true ∧ Ch [] w w') := by
  refine enter Try.func7 rfl Try.ntmps7 (by rfl) (by rfl) ?_
  have lx : (zer b).length ≤ 1000000000 := by have := zer_len b; omega
  have lp : ([] : List (Int × List Int)).length ≤ 1000000000 := by simp
  have lxx : ∀ x : Int × List Int, x ∈ [] → x.2.length ≤ 1000000000 := by simp
  have ls : szW [] ≤ 1000000000 := by simp [szW]
  refine sq (rg (r (sa rfl) (re (sq (rg (r (mv rfl) (cl go39 (spec_NewDisk) (ac rfl an) ?_)))))))
  rintro _ wd1 ⟨⟨v1, vp1, F1, Fp1, rfl, W1, Wp1, n1, np1, x1_p1, f1, fp1⟩, cd1⟩
  replace f1 := low_t (Ch.refl [] w) f1
  replace fp1 := low_t (Ch.refl [] w) fp1
  have hcd1 : Ch [] w wd1 := (Ch.refl [] w).t cd1
  refine al ti49 ?_
  intro g3 wg3 eg3 sg3 bg3 cg3
  have d1_g3 := fresh_d W1.lt eg3
  have dp1_g3 := fresh_d Wp1.lt eg3
  have qg3 := le_new hcd1.size eg3
  replace W1 := W1.t cg3
  replace Wp1 := Wp1.t cg3
  have hcg3 : Ch [] w wg3 := hcd1.t cg3
  replace bg3 : B wg3 g3 49 ([.slice none 0 0, .slice none 0 0]) := bg3
  refine st ti49 rfl rfl bg3 rfl (Nat.le_of_ble_eq_true rfl) (oc (W1.R).oneCell (oc (Wp1.R).oneCell on)) ?_
  intro wS3g3 sS3g3 bg3 cS3g3
  replace W1 := W1.tt cS3g3 d1_g3
  replace Wp1 := Wp1.tt cS3g3 dp1_g3
  have hcS3g3 : Ch [] w wS3g3 := hcg3.own cS3g3 qg3
  replace bg3 : B wS3g3 g3 49 ([v1, vp1]) := bg3
  refine re (sq (rg (r (mv rfl) (cl go40 (impl_NewDisk) (ac rfl an) ?_))))
  rintro _ wd2 ⟨⟨v2, vp2, F2, Fp2, rfl, W2, Wp2, n2, np2, x2_p2, f2, fp2⟩, cd2⟩
  have d2_g3 := old_d f2 bg3.lt
  have x1_2 := x_new W1.lt f2
  have xp1_2 := x_new Wp1.lt f2
  replace f2 := low_t hcS3g3 f2
  have dp2_g3 := old_d fp2 bg3.lt
  have x1_p2 := x_new W1.lt fp2
  have xp1_p2 := x_new Wp1.lt fp2
  replace fp2 := low_t hcS3g3 fp2
  replace bg3 := cd2.b0 bg3
  replace W1 := W1.t cd2
  replace Wp1 := Wp1.t cd2
  have hcd2 : Ch [] w wd2 := hcS3g3.t cd2
  refine al ti49 ?_
  intro g4 wg4 eg4 sg4 bg4 cg4
  have ng3_g4 := ne_new bg3.lt eg4
  have d1_g4 := fresh_d W1.lt eg4
  have dp1_g4 := fresh_d Wp1.lt eg4
  have d2_g4 := fresh_d W2.lt eg4
  have dp2_g4 := fresh_d Wp2.lt eg4
  have qg4 := le_new hcd2.size eg4
  replace bg3 := cg4.b0 bg3
  replace W1 := W1.t cg4
  replace Wp1 := Wp1.t cg4
  replace W2 := W2.t cg4
  replace Wp2 := Wp2.t cg4
  have hcg4 : Ch [] w wg4 := hcd2.t cg4
  replace bg4 : B wg4 g4 49 ([.slice none 0 0, .slice none 0 0]) := bg4
  refine st ti49 rfl rfl bg4 rfl (Nat.le_of_ble_eq_true rfl) (oc (W2.R).oneCell (oc (Wp2.R).oneCell on)) ?_
  intro wS3g4 sS3g4 bg4 cS3g4
  replace bg3 := cS3g4.b bg3 (nin1 ng3_g4)
  replace W1 := W1.tt cS3g4 d1_g4
  replace Wp1 := Wp1.tt cS3g4 dp1_g4
  replace W2 := W2.tt cS3g4 d2_g4
  replace Wp2 := Wp2.tt cS3g4 dp2_g4
  have hcS3g4 : Ch [] w wS3g4 := hcg4.own cS3g4 qg4
  replace bg4 : B wS3g4 g4 49 ([v2, vp2]) := bg4
  refine re (sq (sq (rg (r (lab [v2, vp2] Try.underlying49 rfl ti49 rfl bg4 rfl rfl) (r (lab [v1, vp1] Try.underlying49 rfl ti49 rfl bg3 rfl rfl) (cl go41 (eqDisk W2.R Wp2.R W1.R Wp1.R lx lp lxx) (ac rfl (ac rfl an)) ?_))))))
  rintro r wqa ⟨rfl, cqa⟩
  replace bg3 := cqa.b0 bg3
  replace bg4 := cqa.b0 bg4
  replace W1 := W1.t cqa
  replace Wp1 := Wp1.t cqa
  replace W2 := W2.t cqa
  replace Wp2 := Wp2.t cqa
  have hcqa : Ch [] w wqa := hcS3g4.t cqa
  refine r (nt rfl) (re ?_)
  refine cf ((rfl : _ = Value.bool (!(decide ((zer b, []) = (zer b, []))))).trans (show Value.bool (!(decide ((zer b, []) = (zer b, [])))) = Value.bool false from by rw [decide_eq_true rfl]; rfl)) ?_
  refine sk (sq ?_)
  refine gen (fun ρ => ρ 0 = .int .i64 b ∧ ρ 2 = .bool false ∧ ρ 3 = .pointer (some ⟨g3, 0, none⟩) ∧ ρ 4 = .pointer (some ⟨g4, 0, none⟩) ∧ True) ⟨rfl, rfl, rfl, rfl, trivial⟩ ?_
  rintro ρ ⟨z0, z2, z3, z4, -⟩
  refine rg (r (sa rfl) (re (sq (rg (r (lab [v2, vp2] Try.underlying49 rfl ti49 z4 bg4 rfl rfl) (r (mv rfl) (cl go42 (markDisk W2 n2 Wp2 np2 x2_p2 (by omega) lx ls) (ac rfl (ac rfl an)) ?_)))))))
  rintro r wm ⟨rfl, F2', Fp2', W2', Wp2', cm⟩
  have hcm := Ch.own2 hcqa cm f2 fp2
  replace bg3 := cm.b bg3 (nb_app d2_g3 dp2_g3)
  replace bg4 := cm.b bg4 (nb_app d2_g4 dp2_g4)
  replace W1 := W1.tt cm (x_app x1_2 x1_p2)
  replace Wp1 := Wp1.tt cm (x_app xp1_2 xp1_p2)
  replace W2 := W2'
  replace Wp2 := Wp2'
  refine r (sa rfl) (re (sq (rg (r (sa rfl) (re (sq (rg (r (lab [v2, vp2] Try.underlying49 rfl ti49 z4 bg4 rfl rfl) (r (mv rfl) (cl go43 (heldDisk W2.R Wp2.R (by omega) lx ls) (ac rfl (ac rfl an)) ?_))))))))))
  rintro r wh ⟨rfl, ch⟩
  replace bg3 := ch.b0 bg3
  replace bg4 := ch.b0 bg4
  replace W1 := W1.t ch
  replace Wp1 := Wp1.t ch
  replace W2 := W2.t ch
  replace Wp2 := Wp2.t ch
  have hch : Ch [] w wh := hcm.t ch
  refine r (sa rfl) (re (sq (sq ?_)))
  refine gen (fun ρ => ρ 0 = .int .i64 b ∧ ρ 2 = .bool false ∧ ρ 3 = .pointer (some ⟨g3, 0, none⟩) ∧ ρ 5 = .int .i64 (1 + ((zer b).length : Int) + (szW [] : Int)) ∧ ρ 6 = .int .i64 (1 + ((zer b).length : Int) + (szW [] : Int)) ∧ True) ⟨z0, z2, z3, rfl, rfl, trivial⟩ ?_
  rintro ρ ⟨z0, z2, z3, z5, z6, -⟩
  refine rg (r (mv z6) (r (bi rfl rfl rfl) (re ?_)))
  refine cf ((rfl : _ = Value.bool (decide ((1 + ((zer b).length : Int) + (szW [] : Int)) < 0))).trans (congrArg Value.bool (show (decide ((1 + ((zer b).length : Int) + (szW [] : Int)) < 0)) = false from decide_eq_false (by omega)))) ?_
  refine sk (sq (sq (rg (r (mv z6) (r (mv z5) (r (bi rfl rfl rfl) (re ?_)))))))
  refine cf ((rfl : _ = Value.bool (!decide ((1 + ((zer b).length : Int) + (szW [] : Int)) = (1 + ((zer b).length : Int) + (szW [] : Int))))).trans (show Value.bool (!decide ((1 + ((zer b).length : Int) + (szW [] : Int)) = (1 + ((zer b).length : Int) + (szW [] : Int)))) = Value.bool false from by rw [decide_eq_true rfl]; rfl)) ?_
  refine sk (sq (rg (r (mv z0) (cl go40 (impl_NewDisk) (ac rfl an) ?_))))
  rintro _ wd3 ⟨⟨v3, vp3, F3, Fp3, rfl, W3, Wp3, n3, np3, x3_p3, f3, fp3⟩, cd3⟩
  have d3_g3 := old_d f3 bg3.lt
  have d3_g4 := old_d f3 bg4.lt
  have x1_3 := x_new W1.lt f3
  have xp1_3 := x_new Wp1.lt f3
  have x2_3 := x_new W2.lt f3
  have xp2_3 := x_new Wp2.lt f3
  replace f3 := low_t hch f3
  have dp3_g3 := old_d fp3 bg3.lt
  have dp3_g4 := old_d fp3 bg4.lt
  have x1_p3 := x_new W1.lt fp3
  have xp1_p3 := x_new Wp1.lt fp3
  have x2_p3 := x_new W2.lt fp3
  have xp2_p3 := x_new Wp2.lt fp3
  replace fp3 := low_t hch fp3
  replace bg3 := cd3.b0 bg3
  replace bg4 := cd3.b0 bg4
  replace W1 := W1.t cd3
  replace Wp1 := Wp1.t cd3
  replace W2 := W2.t cd3
  replace Wp2 := Wp2.t cd3
  have hcd3 : Ch [] w wd3 := hch.t cd3
  refine al ti49 ?_
  intro g7 wg7 eg7 sg7 bg7 cg7
  have ng3_g7 := ne_new bg3.lt eg7
  have ng4_g7 := ne_new bg4.lt eg7
  have d1_g7 := fresh_d W1.lt eg7
  have dp1_g7 := fresh_d Wp1.lt eg7
  have d2_g7 := fresh_d W2.lt eg7
  have dp2_g7 := fresh_d Wp2.lt eg7
  have d3_g7 := fresh_d W3.lt eg7
  have dp3_g7 := fresh_d Wp3.lt eg7
  have qg7 := le_new hcd3.size eg7
  replace bg3 := cg7.b0 bg3
  replace bg4 := cg7.b0 bg4
  replace W1 := W1.t cg7
  replace Wp1 := Wp1.t cg7
  replace W2 := W2.t cg7
  replace Wp2 := Wp2.t cg7
  replace W3 := W3.t cg7
  replace Wp3 := Wp3.t cg7
  have hcg7 : Ch [] w wg7 := hcd3.t cg7
  replace bg7 : B wg7 g7 49 ([.slice none 0 0, .slice none 0 0]) := bg7
  refine st ti49 rfl rfl bg7 rfl (Nat.le_of_ble_eq_true rfl) (oc (W3.R).oneCell (oc (Wp3.R).oneCell on)) ?_
  intro wS3g7 sS3g7 bg7 cS3g7
  replace bg3 := cS3g7.b bg3 (nin1 ng3_g7)
  replace bg4 := cS3g7.b bg4 (nin1 ng4_g7)
  replace W1 := W1.tt cS3g7 d1_g7
  replace Wp1 := Wp1.tt cS3g7 dp1_g7
  replace W2 := W2.tt cS3g7 d2_g7
  replace Wp2 := Wp2.tt cS3g7 dp2_g7
  replace W3 := W3.tt cS3g7 d3_g7
  replace Wp3 := Wp3.tt cS3g7 dp3_g7
  have hcS3g7 : Ch [] w wS3g7 := hcg7.own cS3g7 qg7
  replace bg7 : B wS3g7 g7 49 ([v3, vp3]) := bg7
  refine re (sq (sq (rg (r (lab [v3, vp3] Try.underlying49 rfl ti49 rfl bg7 rfl rfl) (r (lab [v1, vp1] Try.underlying49 rfl ti49 z3 bg3 rfl rfl) (cl go41 (eqDisk W3.R Wp3.R W1.R Wp1.R lx lp lxx) (ac rfl (ac rfl an)) ?_))))))
  rintro r wqb ⟨rfl, cqb⟩
  replace bg3 := cqb.b0 bg3
  replace bg4 := cqb.b0 bg4
  replace bg7 := cqb.b0 bg7
  replace W1 := W1.t cqb
  replace Wp1 := Wp1.t cqb
  replace W2 := W2.t cqb
  replace Wp2 := Wp2.t cqb
  replace W3 := W3.t cqb
  replace Wp3 := Wp3.t cqb
  have hcqb : Ch [] w wqb := hcS3g7.t cqb
  refine r (nt rfl) (re ?_)
  refine cf ((rfl : _ = Value.bool (!(decide ((zer b, []) = (zer b, []))))).trans (show Value.bool (!(decide ((zer b, []) = (zer b, [])))) = Value.bool false from by rw [decide_eq_true rfl]; rfl)) ?_
  refine sk (sq ?_)
  refine gen (fun ρ => ρ 2 = .bool false ∧ True) ⟨z2, trivial⟩ ?_
  rintro ρ ⟨z2, -⟩
  refine rg (r (sa rfl) (re (rt ?_)))
  exact fin1 (v := .bool true) Try.results7 rfl ⟨rfl, hcqb⟩
end Go.Proofs.Ytgpcanjmgdmdhaa
