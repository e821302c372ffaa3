/-
  THE LAW'S WALK: SegmentCounts. No condition.
-/
import Derived.Test.Ytgpcanjmgdmdhaa15
namespace Go.Proofs.Ytgpcanjmgdmdhaa
open Go Go.Eng
set_option maxRecDepth 100000
set_option maxHeartbeats 4000000
set_option linter.unusedVariables false
theorem segCounts_len (xs : List (Int × Bool)) (s b : Int) : (segCounts xs s b).length ≤ 64 := by
  unfold segCounts; split
  · rename_i h; rw [segc_len]; omega
  · simp
theorem w_FnExactSegmentCounts {w : World} {F : List Nat} {v : Value} {xs : List (Int × Bool)} {s b : Int} (hx : kE.R w F v xs) (l0 : xs.length ≤ 9223372036854775807) :
    Ret Try.prog 15 #[v, .agg #[.int .i64 s, .int .i64 b]] w (fun r w' => r = .bool true ∧ Ch [] w w') := by
  refine enter Try.func15 rfl Try.ntmps15 (by rfl) (by rfl) ?_
  refine sq (rg (bx rfl ?_))
  intro g3 wg3 eg3 sg3 bg3 cg3
  have qg3 := le_new (Ch.refl [] w).size eg3
  have hcg3 : Ch [] w wg3 := (Ch.refl [] w).t cg3
  replace bg3 : B wg3 g3 30 ([.int .i64 s, .int .i64 b]) := bg3
  refine r (sa rfl) (re (sq (rg (r (sa rfl) (re (sq (rg (r (mv rfl) (r (mv rfl) (cl go44 (szEntryS (hx.t hcg3) l0 (by omega)) (ac rfl (ac rfl an)) ?_))))))))))
  rintro r wz ⟨rfl, cz⟩
  replace bg3 := cz.b0 bg3
  have hcz : Ch [] w wz := hcg3.t cz
  refine r (sa rfl) (re (sq (sq (rg (r (mv rfl) (r (bi rfl rfl rfl) (re ?_)))))))
  refine cp rfl (fun h => ?_) (fun h => ?_)
  · refine sq (rg (r (sa rfl) (re (rt ?_))))
    exact fin1 (v := .bool true) Try.results15 rfl ⟨rfl, hcz⟩
  · have lx : xs.length ≤ 1000000000 := by split at h <;> omega
    have hl := segCounts_len xs s b
    have ly : (segCounts xs s b).length ≤ 1000000000 := by omega
    refine sk (sq ?_)
    refine rdd mixed ?_
    intro wD cD
    replace bg3 := cD.b0 bg3
    have hcD : Ch [] w wD := hcz.t cD
    have bg3D := bg3
    refine dt 0 rfl (by kernel_rfl) (mv rfl) (dt 2 rfl (by kernel_rfl) (lab [.int .i64 s, .int .i64 b] Try.underlying30 rfl ti30 rfl bg3 rfl rfl) (d1 1 (by kernel_rfl) <| uc rfl go46 (ac rfl an) (toEntryS (hx.t hcD) lx) ?_))
    rintro r1 wt1 ⟨⟨F1, W1, n1, f1⟩, ct1⟩
    have N1 := f1
    have d1_g3 := old_d f1 bg3.lt
    replace f1 := low_t hcD f1
    replace bg3 := ct1.b0 bg3
    have hct1D := (Ch.refl [] wD).t ct1
    have hct1 : Ch [] w wt1 := hcD.t ct1
    have fD1 := low_t (Ch.refl [] wD) N1
    refine ⟨hct1D, ?_⟩
    refine d1 3 (by kernel_rfl) <| uc rfl go30 (ac rfl an) (toGeometry) ?_
    rintro r wga ⟨rfl, cga⟩
    replace bg3 := cga.b0 bg3
    replace W1 := W1.t cga
    have hcgaD := hct1D.t cga
    have hcga : Ch [] w wga := hct1.t cga
    refine ⟨hcgaD, ?_⟩
    refine d1 4 (by kernel_rfl) <| uc rfl go70 (ac rfl (ac rfl an)) (spec_SegmentCounts W1.R lx) ?_
    rintro r2 wt2 ⟨⟨F2, W2, n2, f2⟩, ct2⟩
    have N2 := f2
    have d2_g3 := old_d f2 bg3.lt
    have x1_2 := x_new W1.lt f2
    replace f2 := low_t hcga f2
    replace bg3 := ct2.b0 bg3
    replace W1 := W1.t ct2
    have hct2D := hcgaD.t ct2
    have hct2 : Ch [] w wt2 := hcga.t ct2
    have fD2 := low_t hcgaD N2
    refine ⟨hct2D, ?_⟩
    refine dt 5 rfl (by kernel_rfl) (sa rfl) ?_
    refine dd (by kernel_rfl) (fun _ => ?_)
    refine sq ?_
    refine gen (fun ρ => ρ 0 = v ∧ ρ 3 = .pointer (some ⟨g3, 0, none⟩) ∧ ρ 4 = .bool false ∧ ρ 6 = r2 ∧ True) ⟨rfl, rfl, rfl, rfl, trivial⟩ ?_
    rintro ρ ⟨z0, z3, z4, z6, -⟩
    refine rg (r (mv z0) (cl go46 (toEntryS (hx.t hct2) lx) (ac rfl an) ?_))
    rintro r3 wt3 ⟨⟨F3, W3, n3, f3⟩, ct3⟩
    have d3_g3 := old_d f3 bg3.lt
    have x1_3 := x_new W1.lt f3
    have x2_3 := x_new W2.lt f3
    replace f3 := low_t hct2 f3
    replace bg3 := ct3.b0 bg3
    replace W1 := W1.t ct3
    replace W2 := W2.t ct3
    have hct3 : Ch [] w wt3 := hct2.t ct3
    refine r (sa rfl) (re (sq (rg (r (mv rfl) (r (lab [.int .i64 s, .int .i64 b] Try.underlying30 rfl ti30 z3 bg3 rfl rfl) (cl go30 (toGeometry) (ac rfl an) ?_))))))
    rintro r wgb ⟨rfl, cgb⟩
    replace bg3 := cgb.b0 bg3
    replace W1 := W1.t cgb
    replace W2 := W2.t cgb
    replace W3 := W3.t cgb
    have hcgb : Ch [] w wgb := hct3.t cgb
    refine cl go71 (impl_SegmentCounts W3.R lx) (ac rfl (ac rfl an)) ?_
    rintro r4 wt4 ⟨⟨F4, W4, n4, f4⟩, ct4⟩
    have d4_g3 := old_d f4 bg3.lt
    have x1_4 := x_new W1.lt f4
    have x2_4 := x_new W2.lt f4
    have x3_4 := x_new W3.lt f4
    replace f4 := low_t hcgb f4
    replace bg3 := ct4.b0 bg3
    replace W1 := W1.t ct4
    replace W2 := W2.t ct4
    replace W3 := W3.t ct4
    have hct4 : Ch [] w wt4 := hcgb.t ct4
    refine r (sa rfl) (re (sq (sq (rg (r (mv rfl) (r (mv z6) (cl go26 (eqInt64S W4.R W2.R ly) (ac rfl (ac rfl an)) ?_)))))))
    rintro r wqa ⟨rfl, cqa⟩
    replace bg3 := cqa.b0 bg3
    replace W1 := W1.t cqa
    replace W2 := W2.t cqa
    replace W3 := W3.t cqa
    replace W4 := W4.t cqa
    have hcqa : Ch [] w wqa := hct4.t cqa
    refine r (nt rfl) (re ?_)
    refine cf ((rfl : _ = Value.bool (!(decide (segCounts xs s b = segCounts xs s b)))).trans (show Value.bool (!(decide (segCounts xs s b = segCounts xs s b))) = Value.bool false from by rw [decide_eq_true rfl]; rfl)) ?_
    refine sk (sq (sq ?_))
    refine gen (fun ρ => ρ 0 = v ∧ ρ 3 = .pointer (some ⟨g3, 0, none⟩) ∧ ρ 4 = .bool false ∧ ρ 6 = r2 ∧ ρ 7 = r3 ∧ ρ 8 = r4 ∧ True) ⟨z0, z3, z4, z6, rfl, rfl, trivial⟩ ?_
    rintro ρ ⟨z0, z3, z4, z6, z7, z8, -⟩
    refine rg (r (mv z7) (r (mv z0) (cl go46 (toEntryS (hx.t hcqa) lx) (ac rfl an) ?_)))
    rintro r5 wt5 ⟨⟨F5, W5, n5, f5⟩, ct5⟩
    have d5_g3 := old_d f5 bg3.lt
    have x1_5 := x_new W1.lt f5
    have x2_5 := x_new W2.lt f5
    have x3_5 := x_new W3.lt f5
    have x4_5 := x_new W4.lt f5
    replace f5 := low_t hcqa f5
    replace bg3 := ct5.b0 bg3
    replace W1 := W1.t ct5
    replace W2 := W2.t ct5
    replace W3 := W3.t ct5
    replace W4 := W4.t ct5
    have hct5 : Ch [] w wt5 := hcqa.t ct5
    refine cl go48 (eqEntryS W3.R W5.R lx) (ac rfl (ac rfl an)) ?_
    rintro r wqb ⟨rfl, cqb⟩
    replace bg3 := cqb.b0 bg3
    replace W1 := W1.t cqb
    replace W2 := W2.t cqb
    replace W3 := W3.t cqb
    replace W4 := W4.t cqb
    replace W5 := W5.t cqb
    have hcqb : Ch [] w wqb := hct5.t cqb
    refine r (nt rfl) (re ?_)
    refine cf ((rfl : _ = Value.bool (!(decide (xs = xs)))).trans (show Value.bool (!(decide (xs = xs))) = Value.bool false from by rw [decide_eq_true rfl]; rfl)) ?_
    refine sk (sq (rg (r (sa rfl) (re (sq (rg (r (mv z7) (r (mv rfl) (cl go49 (markEntryS W3 n3 (by omega) lx) (ac rfl (ac rfl an)) ?_)))))))))
    rintro r wm ⟨rfl, Fm, ys, Am⟩
    have hAm := Am.hc W3 hcqb f3
    have tb := Am.blk W3 d3_g3 bg3
    replace d3_g3 := Am.dis d3_g3 bg3.lt
    replace bg3 := tb
    clear tb
    have tb := Am.row W3 x1_3 W1
    have tx := Am.x x1_3 W1.lt
    replace W1 := tb
    clear tb
    replace x1_3 := tx
    clear tx
    have tb := Am.row W3 x2_3 W2
    have tx := Am.x x2_3 W2.lt
    replace W2 := tb
    clear tb
    replace x2_3 := tx
    clear tx
    have tb := Am.row W3 (x_sym x3_4) W4
    have tx := Am.x (x_sym x3_4) W4.lt
    replace W4 := tb
    clear tb
    have x4_3 := tx
    have tb := Am.row W3 (x_sym x3_5) W5
    have tx := Am.x (x_sym x3_5) W5.lt
    replace W5 := tb
    clear tb
    have x5_3 := tx
    replace f3 := Am.low hcqb f3
    replace n3 := Am.nd
    replace W3 := Am.W
    refine r (sa rfl) (re (sq (sq ?_)))
    refine gen (fun ρ => ρ 0 = v ∧ ρ 3 = .pointer (some ⟨g3, 0, none⟩) ∧ ρ 4 = .bool false ∧ ρ 6 = r2 ∧ ρ 8 = r4 ∧ ρ 9 = .int .i64 (1 + 2 * (xs.length : Int)) ∧ True) ⟨z0, z3, z4, z6, z8, rfl, trivial⟩ ?_
    rintro ρ ⟨z0, z3, z4, z6, z8, z9, -⟩
    refine rg (r (mv z9) (r (bi rfl rfl rfl) (r (mv rfl) ?_)))
    refine sp 43 rfl (fun hm => ?_) (fun hm => ?_)
    · omega
    · refine gy rfl rfl rfl (r (mv z8) (gy rfl rfl rfl (r (mv z6) (gy rfl rfl rfl (cl go26 (eqInt64S W4.R W2.R ly) (ac rfl (ac rfl an)) ?_)))))
      rintro r wqc ⟨rfl, cqc⟩
      replace bg3 := cqc.b0 bg3
      replace W1 := W1.t cqc
      replace W2 := W2.t cqc
      replace W3 := W3.t cqc
      replace W4 := W4.t cqc
      replace W5 := W5.t cqc
      have hcqc : Ch [] w wqc := hAm.t cqc
      refine gy rfl rfl rfl (r (nt rfl) (r (pk rfl rfl) (re ?_)))
      refine cf ((rfl : _ = Value.bool (!(decide (segCounts xs s b = segCounts xs s b)))).trans (show Value.bool (!(decide (segCounts xs s b = segCounts xs s b))) = Value.bool false from by rw [decide_eq_true rfl]; rfl)) ?_
      refine sk (sq (rg (r (sa rfl) (re (sq (rg (r (mv z8) (r (mv rfl) (cl go50 (markInt64S W4 n4 (by omega) ly) (ac rfl (ac rfl an)) ?_)))))))))
      rintro r wn ⟨rfl, Fn, An⟩
      have hAn := An.hc W4 hcqc f4
      have tb := An.blk W4 d4_g3 bg3
      replace d4_g3 := An.dis d4_g3 bg3.lt
      replace bg3 := tb
      clear tb
      have tb := An.row W4 x1_4 W1
      have tx := An.x x1_4 W1.lt
      replace W1 := tb
      clear tb
      replace x1_4 := tx
      clear tx
      have tb := An.row W4 x2_4 W2
      have tx := An.x x2_4 W2.lt
      replace W2 := tb
      clear tb
      replace x2_4 := tx
      clear tx
      have tb := An.row W4 (x_sym x4_3) W3
      have tx := An.x (x_sym x4_3) W3.lt
      replace W3 := tb
      clear tb
      have x3_4 := tx
      have tb := An.row W4 (x_sym x4_5) W5
      have tx := An.x (x_sym x4_5) W5.lt
      replace W5 := tb
      clear tb
      have x5_4 := tx
      replace f4 := An.low hcqc f4
      replace n4 := An.nd
      replace W4 := An.W
      refine r (sa rfl) (re (sq ?_))
      refine gen (fun ρ => ρ 0 = v ∧ ρ 3 = .pointer (some ⟨g3, 0, none⟩) ∧ ρ 4 = .bool false ∧ ρ 6 = r2 ∧ ρ 8 = r4 ∧ ρ 10 = .int .i64 (1 + ((segCounts xs s b).length : Int)) ∧ True) ⟨z0, z3, z4, z6, z8, rfl, trivial⟩ ?_
      rintro ρ ⟨z0, z3, z4, z6, z8, z10, -⟩
      refine rg (r (sa rfl) (re (sq (rg (r (mv z8) (r (mv rfl) (cl go51 (heldInt64S W4.R (by omega) ly) (ac rfl (ac rfl an)) ?_)))))))
      rintro r wh ⟨rfl, ch⟩
      replace bg3 := ch.b0 bg3
      replace W1 := W1.t ch
      replace W2 := W2.t ch
      replace W3 := W3.t ch
      replace W4 := W4.t ch
      replace W5 := W5.t ch
      have hch : Ch [] w wh := hAn.t ch
      refine r (sa rfl) (re (sq (sq (rg (r (mv rfl) (r (bi rfl rfl rfl) (re ?_)))))))
      refine cf ((rfl : _ = Value.bool (decide ((1 + ((segCounts xs s b).length : Int)) < 0))).trans (congrArg Value.bool (show (decide ((1 + ((segCounts xs s b).length : Int)) < 0)) = false from decide_eq_false (by omega)))) ?_
      refine sk (sq (sq (rg (r (mv rfl) (r (mv z10) (r (bi rfl rfl rfl) (re ?_)))))))
      refine cf ((rfl : _ = Value.bool (!decide ((1 + ((segCounts xs s b).length : Int)) = (1 + ((segCounts xs s b).length : Int))))).trans (show Value.bool (!decide ((1 + ((segCounts xs s b).length : Int)) = (1 + ((segCounts xs s b).length : Int)))) = Value.bool false from by rw [decide_eq_true rfl]; rfl)) ?_
      refine sk (sq ?_)
      refine gen (fun ρ => ρ 0 = v ∧ ρ 3 = .pointer (some ⟨g3, 0, none⟩) ∧ ρ 4 = .bool false ∧ ρ 6 = r2 ∧ True) ⟨z0, z3, z4, z6, trivial⟩ ?_
      rintro ρ ⟨z0, z3, z4, z6, -⟩
      refine rdd mixed ?_
      intro wD cD
      replace bg3 := cD.b0 bg3
      replace W1 := W1.t cD
      replace W2 := W2.t cD
      replace W3 := W3.t cD
      replace W4 := W4.t cD
      replace W5 := W5.t cD
      have hcD : Ch [] w wD := hch.t cD
      have bg3D := bg3
      have W1D := W1
      have W2D := W2
      have W3D := W3
      have W4D := W4
      have W5D := W5
      refine dt 0 rfl (by kernel_rfl) (mv z0) (dt 2 rfl (by kernel_rfl) (lab [.int .i64 s, .int .i64 b] Try.underlying30 rfl ti30 z3 bg3 rfl rfl) (d1 1 (by kernel_rfl) <| uc rfl go46 (ac rfl an) (toEntryS (hx.t hcD) lx) ?_))
      rintro r6 wt6 ⟨⟨F6, W6, n6, f6⟩, ct6⟩
      have N6 := f6
      have d6_g3 := old_d f6 bg3.lt
      have x1_6 := x_new W1.lt f6
      have x2_6 := x_new W2.lt f6
      have x3_6 := x_new W3.lt f6
      have x4_6 := x_new W4.lt f6
      have x5_6 := x_new W5.lt f6
      replace f6 := low_t hcD f6
      replace bg3 := ct6.b0 bg3
      replace W1 := W1.t ct6
      replace W2 := W2.t ct6
      replace W3 := W3.t ct6
      replace W4 := W4.t ct6
      replace W5 := W5.t ct6
      have hct6D := (Ch.refl [] wD).t ct6
      have hct6 : Ch [] w wt6 := hcD.t ct6
      have fD6 := low_t (Ch.refl [] wD) N6
      refine ⟨hct6D, ?_⟩
      refine d1 3 (by kernel_rfl) <| uc rfl go30 (ac rfl an) (toGeometry) ?_
      rintro r wgc ⟨rfl, cgc⟩
      replace bg3 := cgc.b0 bg3
      replace W1 := W1.t cgc
      replace W2 := W2.t cgc
      replace W3 := W3.t cgc
      replace W4 := W4.t cgc
      replace W5 := W5.t cgc
      replace W6 := W6.t cgc
      have hcgcD := hct6D.t cgc
      have hcgc : Ch [] w wgc := hct6.t cgc
      refine ⟨hcgcD, ?_⟩
      refine d1 4 (by kernel_rfl) <| uc rfl go71 (ac rfl (ac rfl an)) (impl_SegmentCounts W6.R lx) ?_
      rintro r7 wt7 ⟨⟨F7, W7, n7, f7⟩, ct7⟩
      have N7 := f7
      have d7_g3 := old_d f7 bg3.lt
      have x1_7 := x_new W1.lt f7
      have x2_7 := x_new W2.lt f7
      have x3_7 := x_new W3.lt f7
      have x4_7 := x_new W4.lt f7
      have x5_7 := x_new W5.lt f7
      have x6_7 := x_new W6.lt f7
      replace f7 := low_t hcgc f7
      replace bg3 := ct7.b0 bg3
      replace W1 := W1.t ct7
      replace W2 := W2.t ct7
      replace W3 := W3.t ct7
      replace W4 := W4.t ct7
      replace W5 := W5.t ct7
      replace W6 := W6.t ct7
      have hct7D := hcgcD.t ct7
      have hct7 : Ch [] w wt7 := hcgc.t ct7
      have fD7 := low_t hcgcD N7
      refine ⟨hct7D, ?_⟩
      refine dt 5 rfl (by kernel_rfl) (sa rfl) ?_
      refine dd (by kernel_rfl) (fun _ => ?_)
      refine sq (sq (rg (r (mv rfl) (r (mv z6) (cl go26 (eqInt64S W7.R W2.R ly) (ac rfl (ac rfl an)) ?_)))))
      rintro r wqd ⟨rfl, cqd⟩
      replace bg3 := cqd.b0 bg3
      replace W1 := W1.t cqd
      replace W2 := W2.t cqd
      replace W3 := W3.t cqd
      replace W4 := W4.t cqd
      replace W5 := W5.t cqd
      replace W6 := W6.t cqd
      replace W7 := W7.t cqd
      have hcqd : Ch [] w wqd := hct7.t cqd
      refine r (nt rfl) (re ?_)
      refine cf ((rfl : _ = Value.bool (!(decide (segCounts xs s b = segCounts xs s b)))).trans (show Value.bool (!(decide (segCounts xs s b = segCounts xs s b))) = Value.bool false from by rw [decide_eq_true rfl]; rfl)) ?_
      refine sk (sq ?_)
      refine gen (fun ρ => ρ 4 = .bool false ∧ True) ⟨z4, trivial⟩ ?_
      rintro ρ ⟨z4, -⟩
      refine rg (r (sa rfl) (re (rt ?_)))
      exact fin1 (v := .bool true) Try.results15 rfl ⟨rfl, hcqd⟩
end Go.Proofs.Ytgpcanjmgdmdhaa
