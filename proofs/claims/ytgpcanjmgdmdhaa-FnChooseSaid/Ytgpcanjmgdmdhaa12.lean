/-
  THE LAW'S WALK: EncodeTable. No condition.
-/
import Derived.Test.Ytgpcanjmgdmdhaa11
namespace Go.Proofs.Ytgpcanjmgdmdhaa
open Go Go.Eng
set_option maxRecDepth 100000
set_option maxHeartbeats 4000000
set_option linter.unusedVariables false
theorem w_FnExactEncodeTable {w : World} {F : List Nat} {v : Value} {xs : List (Int × Bool)} (hx : kE.R w F v xs) (l0 : xs.length ≤ 9223372036854775807) :
    Ret Try.prog 9 #[v] w (fun r w' => r = .bool true ∧ Ch [] w w') := by
  refine enter Try.func9 rfl Try.ntmps9 (by rfl) (by rfl) ?_
  refine sq (rg (r (sa rfl) (re (sq (rg (r (sa rfl) (re (sq (rg (r (mv rfl) (r (mv rfl) (cl go44 (szEntryS (hx.t (Ch.refl [] w)) l0 (by omega)) (ac rfl (ac rfl an)) ?_))))))))))))
  rintro r wz ⟨rfl, cz⟩
  have hcz : Ch [] w wz := (Ch.refl [] w).t cz
  refine r (sa rfl) (re (sq (sq (rg (r (mv rfl) (r (bi rfl rfl rfl) (re ?_)))))))
  refine cp rfl (fun h => ?_) (fun h => ?_)
  · refine sq (rg (r (sa rfl) (re (rt ?_))))
    exact fin1 (v := .bool true) Try.results9 rfl ⟨rfl, hcz⟩
  · have lx : xs.length ≤ 1000000000 := by split at h <;> omega
    have hl := encTable_len xs
    have ly : (encTable xs).length ≤ 1000000000 := by omega
    refine sk (sq (rg (r (mv rfl) (cl go46 (toEntryS (hx.t hcz) lx) (ac rfl an) ?_))))
    rintro r1 wt1 ⟨⟨F1, W1, n1, f1⟩, ct1⟩
    replace f1 := low_t hcz f1
    have hct1 : Ch [] w wt1 := hcz.t ct1
    refine cl go52 (spec_EncodeTable W1.R lx) (ac rfl an) ?_
    rintro r2 wt2 ⟨⟨F2, W2, n2, f2⟩, ct2⟩
    have x1_2 := x_new W1.lt f2
    replace f2 := low_t hct1 f2
    replace W1 := W1.t ct2
    have hct2 : Ch [] w wt2 := hct1.t ct2
    refine r (sa rfl) (re (sq ?_))
    refine gen (fun ρ => ρ 0 = v ∧ ρ 2 = .bool false ∧ ρ 4 = r2 ∧ True) ⟨rfl, rfl, rfl, trivial⟩ ?_
    rintro ρ ⟨z0, z2, z4, -⟩
    refine rg (r (mv z0) (cl go46 (toEntryS (hx.t hct2) lx) (ac rfl an) ?_))
    rintro r3 wt3 ⟨⟨F3, W3, n3, f3⟩, ct3⟩
    have x1_3 := x_new W1.lt f3
    have x2_3 := x_new W2.lt f3
    replace f3 := low_t hct2 f3
    replace W1 := W1.t ct3
    replace W2 := W2.t ct3
    have hct3 : Ch [] w wt3 := hct2.t ct3
    refine r (sa rfl) (re (sq (rg (r (mv rfl) (cl go53 (impl_EncodeTable W3.R lx) (ac rfl an) ?_)))))
    rintro r4 wt4 ⟨⟨F4, W4, n4, f4⟩, ct4⟩
    have x1_4 := x_new W1.lt f4
    have x2_4 := x_new W2.lt f4
    have x3_4 := x_new W3.lt f4
    replace f4 := low_t hct3 f4
    replace W1 := W1.t ct4
    replace W2 := W2.t ct4
    replace W3 := W3.t ct4
    have hct4 : Ch [] w wt4 := hct3.t ct4
    refine r (sa rfl) (re (sq (sq (rg (r (mv rfl) (r (mv z4) (cl go36 (eqByteS W4.R W2.R ly) (ac rfl (ac rfl an)) ?_)))))))
    rintro r wqa ⟨rfl, cqa⟩
    replace W1 := W1.t cqa
    replace W2 := W2.t cqa
    replace W3 := W3.t cqa
    replace W4 := W4.t cqa
    have hcqa : Ch [] w wqa := hct4.t cqa
    refine r (nt rfl) (re ?_)
    refine cf ((rfl : _ = Value.bool (!(decide (encTable xs = encTable xs)))).trans (show Value.bool (!(decide (encTable xs = encTable xs))) = Value.bool false from by rw [decide_eq_true rfl]; rfl)) ?_
    refine sk (sq (sq ?_))
    refine gen (fun ρ => ρ 0 = v ∧ ρ 2 = .bool false ∧ ρ 4 = r2 ∧ ρ 5 = r3 ∧ ρ 6 = r4 ∧ True) ⟨z0, z2, z4, rfl, rfl, trivial⟩ ?_
    rintro ρ ⟨z0, z2, z4, z5, z6, -⟩
    refine rg (r (mv z5) (r (mv z0) (cl go46 (toEntryS (hx.t hcqa) lx) (ac rfl an) ?_)))
    rintro r5 wt5 ⟨⟨F5, W5, n5, f5⟩, ct5⟩
    have x1_5 := x_new W1.lt f5
    have x2_5 := x_new W2.lt f5
    have x3_5 := x_new W3.lt f5
    have x4_5 := x_new W4.lt f5
    replace f5 := low_t hcqa f5
    replace W1 := W1.t ct5
    replace W2 := W2.t ct5
    replace W3 := W3.t ct5
    replace W4 := W4.t ct5
    have hct5 : Ch [] w wt5 := hcqa.t ct5
    refine cl go48 (eqEntryS W3.R W5.R lx) (ac rfl (ac rfl an)) ?_
    rintro r wqb ⟨rfl, cqb⟩
    replace W1 := W1.t cqb
    replace W2 := W2.t cqb
    replace W3 := W3.t cqb
    replace W4 := W4.t cqb
    replace W5 := W5.t cqb
    have hcqb : Ch [] w wqb := hct5.t cqb
    refine r (nt rfl) (re ?_)
    refine cf ((rfl : _ = Value.bool (!(decide (xs = xs)))).trans (show Value.bool (!(decide (xs = xs))) = Value.bool false from by rw [decide_eq_true rfl]; rfl)) ?_
    refine sk (sq (rg (r (sa rfl) (re (sq (rg (r (mv z5) (r (mv rfl) (cl go49 (markEntryS W3 n3 (by omega) lx) (ac rfl (ac rfl an)) ?_)))))))))
    rintro r wm ⟨rfl, Fm, ys, Am⟩
    have hAm := Am.hc W3 hcqb f3
    have tb := Am.row W3 x1_3 W1
    have tx := Am.x x1_3 W1.lt
    replace W1 := tb
    clear tb
    replace x1_3 := tx
    clear tx
    have tb := Am.row W3 x2_3 W2
    have tx := Am.x x2_3 W2.lt
    replace W2 := tb
    clear tb
    replace x2_3 := tx
    clear tx
    have tb := Am.row W3 (x_sym x3_4) W4
    have tx := Am.x (x_sym x3_4) W4.lt
    replace W4 := tb
    clear tb
    have x4_3 := tx
    have tb := Am.row W3 (x_sym x3_5) W5
    have tx := Am.x (x_sym x3_5) W5.lt
    replace W5 := tb
    clear tb
    have x5_3 := tx
    replace f3 := Am.low hcqb f3
    replace n3 := Am.nd
    replace W3 := Am.W
    refine r (sa rfl) (re (sq (sq ?_)))
    refine gen (fun ρ => ρ 0 = v ∧ ρ 2 = .bool false ∧ ρ 4 = r2 ∧ ρ 6 = r4 ∧ ρ 7 = .int .i64 (1 + 2 * (xs.length : Int)) ∧ True) ⟨z0, z2, z4, z6, rfl, trivial⟩ ?_
    rintro ρ ⟨z0, z2, z4, z6, z7, -⟩
    refine rg (r (mv z7) (r (bi rfl rfl rfl) (r (mv rfl) ?_)))
    refine sp 37 rfl (fun hm => ?_) (fun hm => ?_)
    · omega
    · refine gy rfl rfl rfl (r (mv z6) (gy rfl rfl rfl (r (mv z4) (gy rfl rfl rfl (cl go36 (eqByteS W4.R W2.R ly) (ac rfl (ac rfl an)) ?_)))))
      rintro r wqc ⟨rfl, cqc⟩
      replace W1 := W1.t cqc
      replace W2 := W2.t cqc
      replace W3 := W3.t cqc
      replace W4 := W4.t cqc
      replace W5 := W5.t cqc
      have hcqc : Ch [] w wqc := hAm.t cqc
      refine gy rfl rfl rfl (r (nt rfl) (r (pk rfl rfl) (re ?_)))
      refine cf ((rfl : _ = Value.bool (!(decide (encTable xs = encTable xs)))).trans (show Value.bool (!(decide (encTable xs = encTable xs))) = Value.bool false from by rw [decide_eq_true rfl]; rfl)) ?_
      refine sk (sq (rg (r (sa rfl) (re (sq (rg (r (mv z6) (r (mv rfl) (cl go37 (markByteS W4 n4 (by omega) ly) (ac rfl (ac rfl an)) ?_)))))))))
      rintro r wn ⟨rfl, Fn, An⟩
      have hAn := An.hc W4 hcqc f4
      have tb := An.row W4 x1_4 W1
      have tx := An.x x1_4 W1.lt
      replace W1 := tb
      clear tb
      replace x1_4 := tx
      clear tx
      have tb := An.row W4 x2_4 W2
      have tx := An.x x2_4 W2.lt
      replace W2 := tb
      clear tb
      replace x2_4 := tx
      clear tx
      have tb := An.row W4 (x_sym x4_3) W3
      have tx := An.x (x_sym x4_3) W3.lt
      replace W3 := tb
      clear tb
      have x3_4 := tx
      have tb := An.row W4 (x_sym x4_5) W5
      have tx := An.x (x_sym x4_5) W5.lt
      replace W5 := tb
      clear tb
      have x5_4 := tx
      replace f4 := An.low hcqc f4
      replace n4 := An.nd
      replace W4 := An.W
      refine r (sa rfl) (re (sq ?_))
      refine gen (fun ρ => ρ 0 = v ∧ ρ 2 = .bool false ∧ ρ 4 = r2 ∧ ρ 6 = r4 ∧ ρ 8 = .int .i64 (1 + ((encTable xs).length : Int)) ∧ True) ⟨z0, z2, z4, z6, rfl, trivial⟩ ?_
      rintro ρ ⟨z0, z2, z4, z6, z8, -⟩
      refine rg (r (sa rfl) (re (sq (rg (r (mv z6) (r (mv rfl) (cl go38 (heldByteS W4.R (by omega) ly) (ac rfl (ac rfl an)) ?_)))))))
      rintro r wh ⟨rfl, ch⟩
      replace W1 := W1.t ch
      replace W2 := W2.t ch
      replace W3 := W3.t ch
      replace W4 := W4.t ch
      replace W5 := W5.t ch
      have hch : Ch [] w wh := hAn.t ch
      refine r (sa rfl) (re (sq (sq (rg (r (mv rfl) (r (bi rfl rfl rfl) (re ?_)))))))
      refine cf ((rfl : _ = Value.bool (decide ((1 + ((encTable xs).length : Int)) < 0))).trans (congrArg Value.bool (show (decide ((1 + ((encTable xs).length : Int)) < 0)) = false from decide_eq_false (by omega)))) ?_
      refine sk (sq (sq (rg (r (mv rfl) (r (mv z8) (r (bi rfl rfl rfl) (re ?_)))))))
      refine cf ((rfl : _ = Value.bool (!decide ((1 + ((encTable xs).length : Int)) = (1 + ((encTable xs).length : Int))))).trans (show Value.bool (!decide ((1 + ((encTable xs).length : Int)) = (1 + ((encTable xs).length : Int)))) = Value.bool false from by rw [decide_eq_true rfl]; rfl)) ?_
      refine sk (sq ?_)
      refine gen (fun ρ => ρ 0 = v ∧ ρ 2 = .bool false ∧ ρ 4 = r2 ∧ True) ⟨z0, z2, z4, trivial⟩ ?_
      rintro ρ ⟨z0, z2, z4, -⟩
      refine rg (r (mv z0) (cl go46 (toEntryS (hx.t hch) lx) (ac rfl an) ?_))
      rintro r6 wt6 ⟨⟨F6, W6, n6, f6⟩, ct6⟩
      have x1_6 := x_new W1.lt f6
      have x2_6 := x_new W2.lt f6
      have x3_6 := x_new W3.lt f6
      have x4_6 := x_new W4.lt f6
      have x5_6 := x_new W5.lt f6
      replace f6 := low_t hch f6
      replace W1 := W1.t ct6
      replace W2 := W2.t ct6
      replace W3 := W3.t ct6
      replace W4 := W4.t ct6
      replace W5 := W5.t ct6
      have hct6 : Ch [] w wt6 := hch.t ct6
      refine cl go53 (impl_EncodeTable W6.R lx) (ac rfl an) ?_
      rintro r7 wt7 ⟨⟨F7, W7, n7, f7⟩, ct7⟩
      have x1_7 := x_new W1.lt f7
      have x2_7 := x_new W2.lt f7
      have x3_7 := x_new W3.lt f7
      have x4_7 := x_new W4.lt f7
      have x5_7 := x_new W5.lt f7
      have x6_7 := x_new W6.lt f7
      replace f7 := low_t hct6 f7
      replace W1 := W1.t ct7
      replace W2 := W2.t ct7
      replace W3 := W3.t ct7
      replace W4 := W4.t ct7
      replace W5 := W5.t ct7
      replace W6 := W6.t ct7
      have hct7 : Ch [] w wt7 := hct6.t ct7
      refine r (sa rfl) (re (sq (sq (rg (r (mv rfl) (r (mv z4) (cl go36 (eqByteS W7.R W2.R ly) (ac rfl (ac rfl an)) ?_)))))))
      rintro r wqd ⟨rfl, cqd⟩
      replace W1 := W1.t cqd
      replace W2 := W2.t cqd
      replace W3 := W3.t cqd
      replace W4 := W4.t cqd
      replace W5 := W5.t cqd
      replace W6 := W6.t cqd
      replace W7 := W7.t cqd
      have hcqd : Ch [] w wqd := hct7.t cqd
      refine r (nt rfl) (re ?_)
      refine cf ((rfl : _ = Value.bool (!(decide (encTable xs = encTable xs)))).trans (show Value.bool (!(decide (encTable xs = encTable xs))) = Value.bool false from by rw [decide_eq_true rfl]; rfl)) ?_
      refine sk (sq (rg (r (sa rfl) (re (rt ?_)))))
      exact fin1 (v := .bool true) Try.results9 rfl ⟨rfl, hcqd⟩
end Go.Proofs.Ytgpcanjmgdmdhaa
