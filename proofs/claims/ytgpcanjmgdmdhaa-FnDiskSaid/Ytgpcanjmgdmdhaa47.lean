/-
  CONTRACTS 47: drawn disks, drawn writes. No condition.
-/
import Derived.Test.Ytgpcanjmgdmdhaa46
namespace Go.Proofs.Ytgpcanjmgdmdhaa
open Go Go.Eng
set_option maxRecDepth 100000
set_option maxHeartbeats 4000000
set_option linter.unusedVariables false
set_option linter.unusedSimpArgs false
def ddS (s : Src) : Src := (nx (good s).2 30).2
def ddK (s : Src) : Int := (nx (good s).2 30).1
def drawDisk (s : Src) : Dsk × Src :=
  if ddK s = 0 then (((good s).1.1 ++ [1], (good s).1.2), ddS s)
  else if ddK s = 1 then (([], (good s).1.2), ddS s)
  else if ddK s = 2 then ((List.replicate ((1200 + (nx (ddS s) 2).1.toNat) * 64) 0, (good s).1.2), (nx (ddS s) 2).2)
  else if ddK s = 3 then (((good s).1.1, (good s).1.2 ++ [((nx (ddS s) 2).1 * 9, List.replicate (63 + (nx (nx (ddS s) 2).2 3).1.toNat) 0)]), (nx (nx (ddS s) 2).2 3).2)
  else if ddK s = 4 then (((good s).1.1, (good s).1.2 ++ [(-1, List.replicate 64 0)]), ddS s)
  else if ddK s = 5 then (((good s).1.1, (good s).1.2 ++ List.replicate (399 + (nx (ddS s) 3).1.toNat - (good s).1.2.length) (0, List.replicate 64 0)), (nx (ddS s) 3).2)
  else ((good s).1, ddS s)
theorem good_ok {s : Src} (h : SrcOk s) : SrcOk (good s).2 := gdB_ok h _
theorem good_sm (s : Src) : Sm (good s).1 := gdB_sm s _
attribute [local irreducible] good gdA gdB
theorem l1DrawDisk {w : World} {F : List Nat} {g : Nat} {v : Value} {s : Src} (h : Hs w [rB g 172 [v, .int .i64 (s.pt : Int), .int .i64 s.mix, .int .i64 s.size], rR u8 5 v s.code] F) (nd : F.Nodup) (ok : SrcOk s) : Ret Try.prog 139 #[.pointer (some ⟨g, 0, none⟩)] w (fun r w' => ∃ a c, r = .agg #[a, c] ∧ Hold w F w' [rB g 172 [v, .int .i64 ((drawDisk s).2.pt : Int), .int .i64 (drawDisk s).2.mix, .int .i64 (drawDisk s).2.size], rR u8 5 v (drawDisk s).2.code, rR u8 5 a (drawDisk s).1.1, rR kW 112 c (drawDisk s).1.2]) := by
  refine enter Try.func139 rfl Try.ntmps139 (by rfl) (by rfl) ?_
  have H0 : Hold w F w [rB g 172 ([v, .int .i64 (s.pt : Int), .int .i64 s.mix, .int .i64 s.size]), rR u8 5 v s.code] := Hold.begin h nd
  obtain ⟨lx, hlp, lxx, -⟩ := (good_sm s)
  replace lx := Nat.le_trans lx (show 1000000 ≤ 1000000000 by omega)
  replace hlp := Nat.le_trans hlp (show 1000000 ≤ 2000000 by omega)
  refine sq (rg (ef (xal ti49) ?_))
  rintro _ w1 ⟨g2, e1, rfl, -, b1, c1⟩
  have H1 : Hold w F w1 [rB g 172 ([v, .int .i64 (s.pt : Int), .int .i64 s.mix, .int .i64 s.size]), rR u8 5 v s.code, rB g2 49 ([.slice none 0 0, .slice none 0 0])] := Hold.newB H0 e1 b1 c1
  clear H0
  clear e1 b1 c1
  obtain ⟨F2, hF2, n2, s2, K2⟩ := Hold.front (Γ := [rB g 172 ([v, .int .i64 (s.pt : Int), .int .i64 s.mix, .int .i64 s.size]), rR u8 5 v s.code]) (Δ := [rB g2 49 ([.slice none 0 0, .slice none 0 0])]) H1
  refine re (sq (rg (r (mv rfl) (cl go158 (l1DrawGood hF2 n2 ok) (ac rfl an) ?_))))
  rintro r wd ⟨a, c, rfl, Hd⟩
  have H2 : Hold w F wd [rB g 172 ([v, .int .i64 ((good s).2.pt : Int), .int .i64 ((good s).2.mix), .int .i64 ((good s).2.size)]), rR u8 5 v ((good s).2.code), rR u8 5 a ((good s).1.1), rR kW 112 c ((good s).1.2), rB g2 49 ([.slice none 0 0, .slice none 0 0])] := Hold.call K2 Hd
  clear H1
  clear K2 hF2 n2 s2
  clear Hd
  refine ef (xal ti49) ?_
  rintro _ w3 ⟨g3, e3, rfl, -, b3, c3⟩
  have H3 : Hold w F w3 [rB g 172 ([v, .int .i64 ((good s).2.pt : Int), .int .i64 ((good s).2.mix), .int .i64 ((good s).2.size)]), rR u8 5 v ((good s).2.code), rR u8 5 a ((good s).1.1), rR kW 112 c ((good s).1.2), rB g2 49 ([.slice none 0 0, .slice none 0 0]), rB g3 49 ([.slice none 0 0, .slice none 0 0])] := Hold.newB H2 e3 b3 c3
  clear H2
  clear e3 b3 c3
  have b4 : B w3 g3 49 ([.slice none 0 0, .slice none 0 0]) := Hold.blk H3 5 rfl
  obtain ⟨_, R6⟩ : ∃ F, Kd.R kW w3 F c ((good s).1.2) := Hold.row H3 3 rfl
  obtain ⟨_, R7⟩ : ∃ F, Kd.R u8 w3 F a ((good s).1.1) := Hold.row H3 2 rfl
  refine ef0 (xst (vs := [a, c]) ti49 rfl rfl rfl b4 rfl (Nat.le_of_ble_eq_true rfl) (oc (R7).oneCell (oc (R6).oneCell on))) ?_
  rintro w5 ⟨-, b5, c5⟩
  have H4 : Hold w F w5 [rB g 172 ([v, .int .i64 ((good s).2.pt : Int), .int .i64 ((good s).2.mix), .int .i64 ((good s).2.size)]), rR u8 5 v ((good s).2.code), rR u8 5 a ((good s).1.1), rR kW 112 c ((good s).1.2), rB g2 49 ([.slice none 0 0, .slice none 0 0]), rB g3 49 ([a, c])] := Hold.setB H3 5 rfl b5 c5 rfl
  clear H3
  clear b5 c5
  refine re (sq (rg (r (mv rfl) ?_)))
  have da8 := nx_0 (n := 30) (good_ok ok)
  have dc8 := nx_1 (s := ((good s).2)) (n := 30) (by omega)
  have do8 := nx_ok (n := 30) (good_ok ok)
  obtain ⟨dz8, hz8⟩ : ∃ z, z = (nx ((good s).2) 30).1 := ⟨_, rfl⟩
  obtain ⟨ds8, hs8⟩ : ∃ z, z = (nx ((good s).2) 30).2 := ⟨_, rfl⟩
  rw [← hz8] at da8 dc8
  rw [← hs8] at do8
  have eK : ddK s = dz8 := hz8.symm
  have eS : ddS s = ds8 := hs8.symm
  obtain ⟨F9, hF9, n9, s9, K9⟩ := Hold.front (Γ := [rB g 172 ([v, .int .i64 ((good s).2.pt : Int), .int .i64 ((good s).2.mix), .int .i64 ((good s).2.size)]), rR u8 5 v ((good s).2.code)]) (Δ := [rR u8 5 a ((good s).1.1), rR kW 112 c ((good s).1.2), rB g2 49 ([.slice none 0 0, .slice none 0 0]), rB g3 49 ([a, c])]) H4
  refine cl go111 (l1Next (s := ((good s).2)) (m := 30) hF9 n9 (good_ok ok) (by omega)) (ac rfl (ac rfl an)) ?_
  rintro r wn8 ⟨er8, Hn8⟩
  rw [← hz8] at er8
  rw [← hs8] at Hn8
  subst er8
  have H5 : Hold w F wn8 [rB g 172 ([v, .int .i64 (ds8.pt : Int), .int .i64 ds8.mix, .int .i64 ds8.size]), rR u8 5 v ds8.code, rR u8 5 a ((good s).1.1), rR kW 112 c ((good s).1.2), rB g2 49 ([.slice none 0 0, .slice none 0 0]), rB g3 49 ([a, c])] := Hold.call K9 Hn8
  clear H4
  clear K9 hF9 n9 s9
  clear Hn8
  refine r (sa rfl) (re (sq (sq (rg (r (mv rfl) (r (bi rfl rfl rfl) (re ?_)))))))
  refine cp rfl (fun h0 => ?_) (fun h0 => ?_)
  · have b10 : B wn8 g3 49 ([a, c]) := Hold.blk H5 5 rfl
    refine rg (r (fa Try.underlying49 rfl ti40 rfl rfl) (r (ldb Try.underlying40 rfl rfl b10 rfl) (ef (xbs1 (cs := [.int .u8 1]) Try.underlying40 ti5 rfl rfl rfl (cel1 rfl) rfl) ?_)))
    rintro _ w11 ⟨g14, e11, rfl, -, b11, c11⟩
    have H6 : Hold w F w11 [rB g 172 ([v, .int .i64 (ds8.pt : Int), .int .i64 ds8.mix, .int .i64 ds8.size]), rR u8 5 v ds8.code, rR u8 5 a ((good s).1.1), rR kW 112 c ((good s).1.2), rB g2 49 ([.slice none 0 0, .slice none 0 0]), rB g3 49 ([a, c]), rB g14 5 ([.int .u8 1])] := Hold.newB H5 e11 b11 c11
    clear H5
    clear e11 b11 c11
    have b13 : B w11 g14 5 ([.int .u8 1]) := Hold.blk H6 6 rfl
    obtain ⟨F14, P14, n14, s14, K14⟩ := Hold.pick H6 2 rfl
    replace P14 : Kd.W u8 5 w11 F14 a ((good s).1.1) := P14
    refine ef (xapb (ys := [1]) Try.underlying40 ti5 rfl rfl rfl P14 b13 (els_one (R := Kd.O u8 _) (show Kd.O u8 _ [] 1 _ from ⟨rfl, rfl⟩)) (nodup_nil n14) (by simp; omega)) ?_
    rintro v15_12 w12 ⟨F12, A12⟩
    have H7 : Hold w F w12 [rB g 172 ([v, .int .i64 (ds8.pt : Int), .int .i64 ds8.mix, .int .i64 ds8.size]), rR u8 5 v ds8.code, rR u8 5 v15_12 (((good s).1.1) ++ [1]), rR kW 112 c ((good s).1.2), rB g2 49 ([.slice none 0 0, .slice none 0 0]), rB g3 49 ([a, c]), rB g14 5 ([.int .u8 1])] := Hold.apd K14 P14 A12 rfl
    clear H6
    clear A12 K14 P14 n14 s14
    have b15 : B w12 g3 49 ([a, c]) := Hold.blk H7 5 rfl
    obtain ⟨_, R17⟩ : ∃ F, Kd.R u8 w12 F v15_12 (((good s).1.1) ++ [1]) := Hold.row H7 2 rfl
    refine r (fa Try.underlying49 rfl ti40 rfl rfl) (ef0 (xst (vs := [v15_12]) ti40 rfl rfl (cel1 (R17).oneCell) b15 rfl (Nat.le_of_ble_eq_true rfl) (ones1 (R17).oneCell)) ?_)
    rintro w16 ⟨-, b16, c16⟩
    have H8 : Hold w F w16 [rB g 172 ([v, .int .i64 (ds8.pt : Int), .int .i64 ds8.mix, .int .i64 ds8.size]), rR u8 5 v ds8.code, rR u8 5 v15_12 (((good s).1.1) ++ [1]), rR kW 112 c ((good s).1.2), rB g2 49 ([.slice none 0 0, .slice none 0 0]), rB g3 49 ([v15_12, c]), rB g14 5 ([.int .u8 1])] := Hold.setB H7 5 rfl b16 c16 rfl
    clear H7
    clear b16 c16
    refine re (sq (sq ?_))
    refine gen (fun ρ => ρ 0 = .pointer (some ⟨g, 0, none⟩) ∧ ρ 2 = .pointer (some ⟨g2, 0, none⟩) ∧ ρ 3 = .pointer (some ⟨g3, 0, none⟩) ∧ ρ 4 = .int .i64 dz8 ∧ True) ⟨rfl, rfl, rfl, rfl, trivial⟩ ?_
    rintro ρ ⟨z0, z2, z3, z4, -⟩
    refine rg (r (mv z4) (r (bi rfl rfl rfl) (re ?_)))
    refine cf ((rfl : _ = Value.bool (decide (dz8 = 1))).trans (congrArg Value.bool (show (decide (dz8 = 1)) = false from (decide_eq_false (by omega))))) ?_
    refine sk (sq (sq (rg (r (mv z4) (r (bi rfl rfl rfl) (re ?_))))))
    refine cf ((rfl : _ = Value.bool (decide (dz8 = 2))).trans (congrArg Value.bool (show (decide (dz8 = 2)) = false from (decide_eq_false (by omega))))) ?_
    refine sk (sq (sq (rg (r (mv z4) (r (bi rfl rfl rfl) (re ?_))))))
    refine cf ((rfl : _ = Value.bool (decide (dz8 = 3))).trans (congrArg Value.bool (show (decide (dz8 = 3)) = false from (decide_eq_false (by omega))))) ?_
    refine sk (sq (sq (rg (r (mv z4) (r (bi rfl rfl rfl) (re ?_))))))
    refine cf ((rfl : _ = Value.bool (decide (dz8 = 4))).trans (congrArg Value.bool (show (decide (dz8 = 4)) = false from (decide_eq_false (by omega))))) ?_
    refine sk (sq (sq (rg (r (mv z4) (r (bi rfl rfl rfl) (re ?_))))))
    refine cf ((rfl : _ = Value.bool (decide (dz8 = 5))).trans (congrArg Value.bool (show (decide (dz8 = 5)) = false from (decide_eq_false (by omega))))) ?_
    refine sk (sq ?_)
    refine gen (fun ρ => ρ 2 = .pointer (some ⟨g2, 0, none⟩) ∧ ρ 3 = .pointer (some ⟨g3, 0, none⟩) ∧ True) ⟨z2, z3, trivial⟩ ?_
    rintro ρ ⟨z2, z3, -⟩
    have b18 : B w16 g3 49 ([v15_12, c]) := Hold.blk H8 5 rfl
    have b19 : B w16 g2 49 ([.slice none 0 0, .slice none 0 0]) := Hold.blk H8 4 rfl
    obtain ⟨_, R21⟩ : ∃ F, Kd.R kW w16 F c ((good s).1.2) := Hold.row H8 3 rfl
    obtain ⟨_, R22⟩ : ∃ F, Kd.R u8 w16 F v15_12 (((good s).1.1) ++ [1]) := Hold.row H8 2 rfl
    refine rg (r (lab [v15_12, c] Try.underlying49 rfl ti49 z3 b18 rfl rfl) (ef0 (xst (vs := [v15_12, c]) ti49 z2 rfl rfl b19 rfl (Nat.le_of_ble_eq_true rfl) (oc (R22).oneCell (oc (R21).oneCell on))) ?_))
    rintro w20 ⟨-, b20, c20⟩
    have H9 : Hold w F w20 [rB g 172 ([v, .int .i64 (ds8.pt : Int), .int .i64 ds8.mix, .int .i64 ds8.size]), rR u8 5 v ds8.code, rR u8 5 v15_12 (((good s).1.1) ++ [1]), rR kW 112 c ((good s).1.2), rB g2 49 ([v15_12, c]), rB g3 49 ([v15_12, c]), rB g14 5 ([.int .u8 1])] := Hold.setB H8 4 rfl b20 c20 rfl
    clear H8
    clear b20 c20
    refine re (rt ?_)
    have eD : drawDisk s = (((good s).1.1 ++ [1], (good s).1.2), ds8) := by
      unfold drawDisk
      rw [eK, eS, if_pos h0]
    rw [eD]
    have b23 : B w20 g2 49 ([v15_12, c]) := Hold.blk H9 4 rfl
    have H10 : Hold w F w20 [rB g 172 ([v, .int .i64 (ds8.pt : Int), .int .i64 ds8.mix, .int .i64 ds8.size]), rR u8 5 v ds8.code, rR u8 5 v15_12 (((good s).1.1) ++ [1]), rR kW 112 c ((good s).1.2)] := (show Hold w F w20 ([rB g 172 ([v, .int .i64 (ds8.pt : Int), .int .i64 ds8.mix, .int .i64 ds8.size]), rR u8 5 v ds8.code, rR u8 5 v15_12 (((good s).1.1) ++ [1]), rR kW 112 c ((good s).1.2)] ++ [rB g2 49 ([v15_12, c]), rB g3 49 ([v15_12, c]), rB g14 5 ([.int .u8 1])]) from Hold.re H9 [0, 1, 2, 3, 4, 5, 6] (by kernel_rfl) (by rfl)).drop
    clear H9
    exact finc  (cs := [v15_12, c]) Try.results139 Try.underlying49 rfl ti49 z2 b23 rfl  ⟨_, _, rfl, H10⟩
  · refine sk (sq (sq (rg (r (mv rfl) (r (bi rfl rfl rfl) (re ?_))))))
    refine cp rfl (fun h1 => ?_) (fun h1 => ?_)
    · refine gen (fun ρ => ρ 0 = .pointer (some ⟨g, 0, none⟩) ∧ ρ 2 = .pointer (some ⟨g2, 0, none⟩) ∧ ρ 3 = .pointer (some ⟨g3, 0, none⟩) ∧ ρ 4 = .int .i64 dz8 ∧ True) ⟨rfl, rfl, rfl, rfl, trivial⟩ ?_
      rintro ρ ⟨z0, z2, z3, z4, -⟩
      refine rg (ef (xbs0 (dk := u8) Try.underlying40 ti5) ?_)
      rintro v10 w10 N10
      have H6 : Hold w F w10 [rB g 172 ([v, .int .i64 (ds8.pt : Int), .int .i64 ds8.mix, .int .i64 ds8.size]), rR u8 5 v ds8.code, rR u8 5 a ((good s).1.1), rR kW 112 c ((good s).1.2), rB g2 49 ([.slice none 0 0, .slice none 0 0]), rB g3 49 ([a, c]), rR u8 5 v10 ([])] := Hold.newr H5 N10
      clear H5
      have b11 : B w10 g3 49 ([a, c]) := Hold.blk H6 5 rfl
      obtain ⟨_, R13⟩ : ∃ F, Kd.R u8 w10 F v10 ([]) := Hold.row H6 6 rfl
      refine r (fa Try.underlying49 rfl ti40 rfl z3) (ef0 (xst (vs := [v10]) ti40 rfl rfl (cel1 (R13).oneCell) b11 rfl (Nat.le_of_ble_eq_true rfl) (ones1 (R13).oneCell)) ?_)
      rintro w12 ⟨-, b12, c12⟩
      have H7 : Hold w F w12 [rB g 172 ([v, .int .i64 (ds8.pt : Int), .int .i64 ds8.mix, .int .i64 ds8.size]), rR u8 5 v ds8.code, rR u8 5 a ((good s).1.1), rR kW 112 c ((good s).1.2), rB g2 49 ([.slice none 0 0, .slice none 0 0]), rB g3 49 ([v10, c]), rR u8 5 v10 ([])] := Hold.setB H6 5 rfl b12 c12 rfl
      clear H6
      clear b12 c12
      refine re (sq (sq (rg (r (mv z4) (r (bi rfl rfl rfl) (re ?_))))))
      have H8 : Hold w F w12 [rB g 172 ([v, .int .i64 (ds8.pt : Int), .int .i64 ds8.mix, .int .i64 ds8.size]), rR u8 5 v ds8.code, rR kW 112 c ((good s).1.2), rB g2 49 ([.slice none 0 0, .slice none 0 0]), rB g3 49 ([v10, c]), rR u8 5 v10 ([])] := (show Hold w F w12 ([rB g 172 ([v, .int .i64 (ds8.pt : Int), .int .i64 ds8.mix, .int .i64 ds8.size]), rR u8 5 v ds8.code, rR kW 112 c ((good s).1.2), rB g2 49 ([.slice none 0 0, .slice none 0 0]), rB g3 49 ([v10, c]), rR u8 5 v10 ([])] ++ [rR u8 5 a ((good s).1.1)]) from Hold.re H7 [0, 1, 3, 4, 5, 6, 2] (by kernel_rfl) (by rfl)).drop
      clear H7
      refine cf ((rfl : _ = Value.bool (decide (dz8 = 2))).trans (congrArg Value.bool (show (decide (dz8 = 2)) = false from (decide_eq_false (by omega))))) ?_
      refine sk (sq (sq (rg (r (mv z4) (r (bi rfl rfl rfl) (re ?_))))))
      refine cf ((rfl : _ = Value.bool (decide (dz8 = 3))).trans (congrArg Value.bool (show (decide (dz8 = 3)) = false from (decide_eq_false (by omega))))) ?_
      refine sk (sq (sq (rg (r (mv z4) (r (bi rfl rfl rfl) (re ?_))))))
      refine cf ((rfl : _ = Value.bool (decide (dz8 = 4))).trans (congrArg Value.bool (show (decide (dz8 = 4)) = false from (decide_eq_false (by omega))))) ?_
      refine sk (sq (sq (rg (r (mv z4) (r (bi rfl rfl rfl) (re ?_))))))
      refine cf ((rfl : _ = Value.bool (decide (dz8 = 5))).trans (congrArg Value.bool (show (decide (dz8 = 5)) = false from (decide_eq_false (by omega))))) ?_
      refine sk (sq ?_)
      refine gen (fun ρ => ρ 2 = .pointer (some ⟨g2, 0, none⟩) ∧ ρ 3 = .pointer (some ⟨g3, 0, none⟩) ∧ True) ⟨z2, z3, trivial⟩ ?_
      rintro ρ ⟨z2, z3, -⟩
      have b14 : B w12 g3 49 ([v10, c]) := Hold.blk H8 4 rfl
      have b15 : B w12 g2 49 ([.slice none 0 0, .slice none 0 0]) := Hold.blk H8 3 rfl
      obtain ⟨_, R17⟩ : ∃ F, Kd.R kW w12 F c ((good s).1.2) := Hold.row H8 2 rfl
      obtain ⟨_, R18⟩ : ∃ F, Kd.R u8 w12 F v10 ([]) := Hold.row H8 5 rfl
      refine rg (r (lab [v10, c] Try.underlying49 rfl ti49 z3 b14 rfl rfl) (ef0 (xst (vs := [v10, c]) ti49 z2 rfl rfl b15 rfl (Nat.le_of_ble_eq_true rfl) (oc (R18).oneCell (oc (R17).oneCell on))) ?_))
      rintro w16 ⟨-, b16, c16⟩
      have H9 : Hold w F w16 [rB g 172 ([v, .int .i64 (ds8.pt : Int), .int .i64 ds8.mix, .int .i64 ds8.size]), rR u8 5 v ds8.code, rR kW 112 c ((good s).1.2), rB g2 49 ([v10, c]), rB g3 49 ([v10, c]), rR u8 5 v10 ([])] := Hold.setB H8 3 rfl b16 c16 rfl
      clear H8
      clear b16 c16
      refine re (rt ?_)
      have eD : drawDisk s = (([], (good s).1.2), ds8) := by
        unfold drawDisk
        rw [eK, eS, if_neg h0, if_pos h1]
      rw [eD]
      have b19 : B w16 g2 49 ([v10, c]) := Hold.blk H9 3 rfl
      have H10 : Hold w F w16 [rB g 172 ([v, .int .i64 (ds8.pt : Int), .int .i64 ds8.mix, .int .i64 ds8.size]), rR u8 5 v ds8.code, rR u8 5 v10 ([]), rR kW 112 c ((good s).1.2)] := (show Hold w F w16 ([rB g 172 ([v, .int .i64 (ds8.pt : Int), .int .i64 ds8.mix, .int .i64 ds8.size]), rR u8 5 v ds8.code, rR u8 5 v10 ([]), rR kW 112 c ((good s).1.2)] ++ [rB g2 49 ([v10, c]), rB g3 49 ([v10, c])]) from Hold.re H9 [0, 1, 5, 2, 3, 4] (by kernel_rfl) (by rfl)).drop
      clear H9
      exact finc  (cs := [v10, c]) Try.results139 Try.underlying49 rfl ti49 z2 b19 rfl  ⟨_, _, rfl, H10⟩
    · refine sk (sq (sq ?_))
      refine gen (fun ρ => ρ 0 = .pointer (some ⟨g, 0, none⟩) ∧ ρ 2 = .pointer (some ⟨g2, 0, none⟩) ∧ ρ 3 = .pointer (some ⟨g3, 0, none⟩) ∧ ρ 4 = .int .i64 dz8 ∧ True) ⟨rfl, rfl, rfl, rfl, trivial⟩ ?_
      rintro ρ ⟨z0, z2, z3, z4, -⟩
      refine rg (r (mv z4) (r (bi rfl rfl rfl) (re ?_)))
      refine cp rfl (fun h2 => ?_) (fun h2 => ?_)
      · have da10 := nx_0 (n := 2) do8
        have dc10 := nx_1 (s := ds8) (n := 2) (by omega)
        have do10 := nx_ok (n := 2) do8
        obtain ⟨dz10, hz10⟩ : ∃ z, z = (nx ds8 2).1 := ⟨_, rfl⟩
        obtain ⟨ds10, hs10⟩ : ∃ z, z = (nx ds8 2).2 := ⟨_, rfl⟩
        rw [← hz10] at da10 dc10
        rw [← hs10] at do10
        obtain ⟨q, hm10⟩ : ∃ m : Nat, dz10 = (m : Int) := ⟨dz10.toNat, by omega⟩
        obtain ⟨F11, hF11, n11, s11, K11⟩ := Hold.front (Γ := [rB g 172 ([v, .int .i64 (ds8.pt : Int), .int .i64 ds8.mix, .int .i64 ds8.size]), rR u8 5 v ds8.code]) (Δ := [rR u8 5 a ((good s).1.1), rR kW 112 c ((good s).1.2), rB g2 49 ([.slice none 0 0, .slice none 0 0]), rB g3 49 ([a, c])]) H5
        refine rg (r (mv z0) (cl go111 (l1Next (s := ds8) (m := 2) hF11 n11 do8 (by omega)) (ac rfl (ac rfl an)) ?_))
        rintro r wn10 ⟨er10, Hn10⟩
        rw [← hz10, hm10] at er10
        rw [← hs10] at Hn10
        subst er10
        have H6 : Hold w F wn10 [rB g 172 ([v, .int .i64 (ds10.pt : Int), .int .i64 ds10.mix, .int .i64 ds10.size]), rR u8 5 v ds10.code, rR u8 5 a ((good s).1.1), rR kW 112 c ((good s).1.2), rB g2 49 ([.slice none 0 0, .slice none 0 0]), rB g3 49 ([a, c])] := Hold.call K11 Hn10
        clear H5
        clear K11 hF11 n11 s11
        clear Hn10
        refine r (ad (a := 1200) (b := (q : Int)) (((1200 + q : Nat) : Int)) rfl rfl (by omega)) (r (ml (a := ((1200 + q : Nat) : Int)) (b := 64) ((((1200 + q) * 64 : Nat) : Int)) rfl rfl (by omega)) (ef (xmk (dk := u8) (m := (1200 + q) * 64) 0 Try.underlying40 ti5 (fun _ => ⟨rfl, rfl⟩) rfl rfl (by omega)) ?_))
        rintro v12 w12 N12
        have H7 : Hold w F w12 [rB g 172 ([v, .int .i64 (ds10.pt : Int), .int .i64 ds10.mix, .int .i64 ds10.size]), rR u8 5 v ds10.code, rR u8 5 a ((good s).1.1), rR kW 112 c ((good s).1.2), rB g2 49 ([.slice none 0 0, .slice none 0 0]), rB g3 49 ([a, c]), rR u8 5 v12 (List.replicate ((1200 + q) * 64) 0)] := Hold.newr H6 N12
        clear H6
        have b13 : B w12 g3 49 ([a, c]) := Hold.blk H7 5 rfl
        obtain ⟨_, R15⟩ : ∃ F, Kd.R u8 w12 F v12 (List.replicate ((1200 + q) * 64) 0) := Hold.row H7 6 rfl
        refine r (fa Try.underlying49 rfl ti40 rfl z3) (ef0 (xst (vs := [v12]) ti40 rfl rfl (cel1 (R15).oneCell) b13 rfl (Nat.le_of_ble_eq_true rfl) (ones1 (R15).oneCell)) ?_)
        rintro w14 ⟨-, b14, c14⟩
        have H8 : Hold w F w14 [rB g 172 ([v, .int .i64 (ds10.pt : Int), .int .i64 ds10.mix, .int .i64 ds10.size]), rR u8 5 v ds10.code, rR u8 5 a ((good s).1.1), rR kW 112 c ((good s).1.2), rB g2 49 ([.slice none 0 0, .slice none 0 0]), rB g3 49 ([v12, c]), rR u8 5 v12 (List.replicate ((1200 + q) * 64) 0)] := Hold.setB H7 5 rfl b14 c14 rfl
        clear H7
        clear b14 c14
        refine re (sq (sq (rg (r (mv z4) (r (bi rfl rfl rfl) (re ?_))))))
        have H9 : Hold w F w14 [rB g 172 ([v, .int .i64 (ds10.pt : Int), .int .i64 ds10.mix, .int .i64 ds10.size]), rR u8 5 v ds10.code, rR kW 112 c ((good s).1.2), rB g2 49 ([.slice none 0 0, .slice none 0 0]), rB g3 49 ([v12, c]), rR u8 5 v12 (List.replicate ((1200 + q) * 64) 0)] := (show Hold w F w14 ([rB g 172 ([v, .int .i64 (ds10.pt : Int), .int .i64 ds10.mix, .int .i64 ds10.size]), rR u8 5 v ds10.code, rR kW 112 c ((good s).1.2), rB g2 49 ([.slice none 0 0, .slice none 0 0]), rB g3 49 ([v12, c]), rR u8 5 v12 (List.replicate ((1200 + q) * 64) 0)] ++ [rR u8 5 a ((good s).1.1)]) from Hold.re H8 [0, 1, 3, 4, 5, 6, 2] (by kernel_rfl) (by rfl)).drop
        clear H8
        refine cf ((rfl : _ = Value.bool (decide (dz8 = 3))).trans (congrArg Value.bool (show (decide (dz8 = 3)) = false from (decide_eq_false (by omega))))) ?_
        refine sk (sq (sq ?_))
        refine gen (fun ρ => ρ 0 = .pointer (some ⟨g, 0, none⟩) ∧ ρ 2 = .pointer (some ⟨g2, 0, none⟩) ∧ ρ 3 = .pointer (some ⟨g3, 0, none⟩) ∧ ρ 4 = .int .i64 dz8 ∧ True) ⟨z0, z2, z3, z4, trivial⟩ ?_
        rintro ρ ⟨z0, z2, z3, z4, -⟩
        refine rg (r (mv z4) (r (bi rfl rfl rfl) (re ?_)))
        refine cf ((rfl : _ = Value.bool (decide (dz8 = 4))).trans (congrArg Value.bool (show (decide (dz8 = 4)) = false from (decide_eq_false (by omega))))) ?_
        refine sk (sq (sq (rg (r (mv z4) (r (bi rfl rfl rfl) (re ?_))))))
        refine cf ((rfl : _ = Value.bool (decide (dz8 = 5))).trans (congrArg Value.bool (show (decide (dz8 = 5)) = false from (decide_eq_false (by omega))))) ?_
        have b16 : B w14 g3 49 ([v12, c]) := Hold.blk H9 4 rfl
        have b17 : B w14 g2 49 ([.slice none 0 0, .slice none 0 0]) := Hold.blk H9 3 rfl
        obtain ⟨_, R19⟩ : ∃ F, Kd.R kW w14 F c ((good s).1.2) := Hold.row H9 2 rfl
        obtain ⟨_, R20⟩ : ∃ F, Kd.R u8 w14 F v12 (List.replicate ((1200 + q) * 64) 0) := Hold.row H9 5 rfl
        refine sk (sq (rg (r (lab [v12, c] Try.underlying49 rfl ti49 z3 b16 rfl rfl) (ef0 (xst (vs := [v12, c]) ti49 z2 rfl rfl b17 rfl (Nat.le_of_ble_eq_true rfl) (oc (R20).oneCell (oc (R19).oneCell on))) ?_))))
        rintro w18 ⟨-, b18, c18⟩
        have H10 : Hold w F w18 [rB g 172 ([v, .int .i64 (ds10.pt : Int), .int .i64 ds10.mix, .int .i64 ds10.size]), rR u8 5 v ds10.code, rR kW 112 c ((good s).1.2), rB g2 49 ([v12, c]), rB g3 49 ([v12, c]), rR u8 5 v12 (List.replicate ((1200 + q) * 64) 0)] := Hold.setB H9 3 rfl b18 c18 rfl
        clear H9
        clear b18 c18
        refine re (rt ?_)
        have eD : drawDisk s = ((List.replicate ((1200 + q) * 64) 0, (good s).1.2), ds10) := by
          unfold drawDisk
          rw [eK, eS, if_neg h0, if_neg h1, if_pos h2]
          rw [← hz10, ← hs10, hm10, Int.toNat_natCast]
        rw [eD]
        have b21 : B w18 g2 49 ([v12, c]) := Hold.blk H10 3 rfl
        have H11 : Hold w F w18 [rB g 172 ([v, .int .i64 (ds10.pt : Int), .int .i64 ds10.mix, .int .i64 ds10.size]), rR u8 5 v ds10.code, rR u8 5 v12 (List.replicate ((1200 + q) * 64) 0), rR kW 112 c ((good s).1.2)] := (show Hold w F w18 ([rB g 172 ([v, .int .i64 (ds10.pt : Int), .int .i64 ds10.mix, .int .i64 ds10.size]), rR u8 5 v ds10.code, rR u8 5 v12 (List.replicate ((1200 + q) * 64) 0), rR kW 112 c ((good s).1.2)] ++ [rB g2 49 ([v12, c]), rB g3 49 ([v12, c])]) from Hold.re H10 [0, 1, 5, 2, 3, 4] (by kernel_rfl) (by rfl)).drop
        clear H10
        exact finc  (cs := [v12, c]) Try.results139 Try.underlying49 rfl ti49 z2 b21 rfl  ⟨_, _, rfl, H11⟩
      · refine sk (sq (sq (rg (r (mv z4) (r (bi rfl rfl rfl) (re ?_))))))
        refine cp rfl (fun h3 => ?_) (fun h3 => ?_)
        · have da10 := nx_0 (n := 2) do8
          have dc10 := nx_1 (s := ds8) (n := 2) (by omega)
          have do10 := nx_ok (n := 2) do8
          obtain ⟨dz10, hz10⟩ : ∃ z, z = (nx ds8 2).1 := ⟨_, rfl⟩
          obtain ⟨ds10, hs10⟩ : ∃ z, z = (nx ds8 2).2 := ⟨_, rfl⟩
          rw [← hz10] at da10 dc10
          rw [← hs10] at do10
          have da11 := nx_0 (n := 3) do10
          have dc11 := nx_1 (s := ds10) (n := 3) (by omega)
          have do11 := nx_ok (n := 3) do10
          obtain ⟨dz11, hz11⟩ : ∃ z, z = (nx ds10 3).1 := ⟨_, rfl⟩
          obtain ⟨ds11, hs11⟩ : ∃ z, z = (nx ds10 3).2 := ⟨_, rfl⟩
          rw [← hz11] at da11 dc11
          rw [← hs11] at do11
          obtain ⟨q, hm11⟩ : ∃ m : Nat, dz11 = (m : Int) := ⟨dz11.toNat, by omega⟩
          refine rde mixed ?_
          intro w12 c12
          have H6 : Hold w F w12 [rB g 172 ([v, .int .i64 (ds8.pt : Int), .int .i64 ds8.mix, .int .i64 ds8.size]), rR u8 5 v ds8.code, rR u8 5 a ((good s).1.1), rR kW 112 c ((good s).1.2), rB g2 49 ([.slice none 0 0, .slice none 0 0]), rB g3 49 ([a, c])] := Hold.t H5 c12
          clear H5
          clear c12
          have H7 : Hold w F w12 [rB g 172 ([v, .int .i64 (ds8.pt : Int), .int .i64 ds8.mix, .int .i64 ds8.size]), rR u8 5 v ds8.code, rR kW 112 c ((good s).1.2), rR u8 5 a ((good s).1.1), rB g2 49 ([.slice none 0 0, .slice none 0 0]), rB g3 49 ([a, c])] := Hold.re H6 [0, 1, 3, 2, 4, 5] (by kernel_rfl) (by rfl)
          clear H6
          obtain ⟨Fd13, hFd13, nd13, Kd13, Xd13, sd13⟩ := Hold.frontx (Γ := [rB g 172 ([v, .int .i64 (ds8.pt : Int), .int .i64 ds8.mix, .int .i64 ds8.size]), rR u8 5 v ds8.code, rR kW 112 c ((good s).1.2)]) (Δ := [rR u8 5 a ((good s).1.1), rB g2 49 ([.slice none 0 0, .slice none 0 0]), rB g3 49 ([a, c])]) H7
          have H13d0 : Hold w12 Fd13 w12 [rB g 172 ([v, .int .i64 (ds8.pt : Int), .int .i64 ds8.mix, .int .i64 ds8.size]), rR u8 5 v ds8.code, rR kW 112 c ((good s).1.2)] := Hold.begin hFd13 nd13
          refine ⟨fun w' => Ch Fd13 w12 w', Ch.refl _ _, ?_⟩
          obtain ⟨_, ⟨rfl, b14⟩, x14⟩ := Xd13 2 (rB g3 49 ([a, c])) rfl
          obtain ⟨F15, hF15, n15, s15, K15⟩ := Hold.front (Γ := [rB g 172 ([v, .int .i64 (ds8.pt : Int), .int .i64 ds8.mix, .int .i64 ds8.size]), rR u8 5 v ds8.code]) (Δ := [rR kW 112 c ((good s).1.2)]) H13d0
          refine edt 0 rfl (by kernel_rfl) (fun w' hS => fa Try.underlying49 rfl ti47 rfl z3) (edt 1 rfl (by kernel_rfl) (fun w' hS => ldb Try.underlying47 rfl rfl (hS.b b14 (x14 _ (by simp))) rfl) (edt 2 rfl (by kernel_rfl) (fun w' hS => mv z0) (edt 5 rfl (by kernel_rfl) (fun w' hS => mv z0) (ed1 3 (by kernel_rfl) <| euc rfl go111 (ac rfl (ac rfl an)) (l1Next (s := ds8) (m := 2) hF15 n15 do8 (by omega)) ?_))))
          rintro r wn10 ⟨er10, Hn10⟩
          rw [← hz10] at er10
          rw [← hs10] at Hn10
          subst er10
          have H8d : Hold w12 Fd13 wn10 [rB g 172 ([v, .int .i64 (ds10.pt : Int), .int .i64 ds10.mix, .int .i64 ds10.size]), rR u8 5 v ds10.code, rR kW 112 c ((good s).1.2)] := Hold.call K15 Hn10
          clear H13d0
          clear K15 hF15 n15 s15
          clear Hn10
          refine ⟨.inr (Hold.ch H8d), ?_⟩
          obtain ⟨F16, hF16, n16, s16, K16⟩ := Hold.front (Γ := [rB g 172 ([v, .int .i64 (ds10.pt : Int), .int .i64 ds10.mix, .int .i64 ds10.size]), rR u8 5 v ds10.code]) (Δ := [rR kW 112 c ((good s).1.2)]) H8d
          refine edt 4 rfl (by kernel_rfl) (fun w' hS => ml (a := dz10) (b := 9) (dz10 * 9) rfl rfl (by omega)) (ed1 6 (by kernel_rfl) <| euc rfl go111 (ac rfl (ac rfl an)) (l1Next (s := ds10) (m := 3) hF16 n16 do10 (by omega)) ?_)
          rintro r wn11 ⟨er11, Hn11⟩
          rw [← hz11, hm11] at er11
          rw [← hs11] at Hn11
          subst er11
          have H9d : Hold w12 Fd13 wn11 [rB g 172 ([v, .int .i64 (ds11.pt : Int), .int .i64 ds11.mix, .int .i64 ds11.size]), rR u8 5 v ds11.code, rR kW 112 c ((good s).1.2)] := Hold.call K16 Hn11
          clear H8d
          clear K16 hF16 n16 s16
          clear Hn11
          refine ⟨.inr (Hold.ch H9d), ?_⟩
          refine edt 7 rfl (by kernel_rfl) (fun w' hS => ad (a := 63) (b := (q : Int)) (((63 + q : Nat) : Int)) rfl rfl (by omega)) (ed1 8 (by kernel_rfl) <| euf rfl (xmk (dk := u8) (m := 63 + q) 0 Try.underlying40 ti5 (fun _ => ⟨rfl, rfl⟩) rfl rfl (by omega)) ?_)
          rintro v17 w17 N17
          have H10d : Hold w12 Fd13 w17 [rB g 172 ([v, .int .i64 (ds11.pt : Int), .int .i64 ds11.mix, .int .i64 ds11.size]), rR u8 5 v ds11.code, rR kW 112 c ((good s).1.2), rR u8 5 v17 (List.replicate (63 + q) 0)] := Hold.newr H9d N17
          clear H9d
          refine ⟨.inr (Hold.ch H10d), ?_⟩
          obtain ⟨_, R18⟩ : ∃ F, Kd.R u8 w17 F v17 (List.replicate (63 + q) 0) := Hold.row H10d 3 rfl
          refine ed1 9 (by kernel_rfl) <| eur rfl (bd (r := [.int .i64 (dz10 * 9), v17]) ti112 pl112 (pc rfl (cel1 rfl) (pc rfl (cel1 (R18).oneCell) pn)) rfl) (.inr (Hold.ch H10d)) (ed1 10 (by kernel_rfl) <| euf rfl (xbs1 (cs := [.int .i64 (dz10 * 9), v17]) Try.underlying47 ti112 rfl rfl rfl rfl rfl) ?_)
          rintro _ w19 ⟨g41, e19, rfl, -, b19, c19⟩
          have H11d : Hold w12 Fd13 w19 [rB g 172 ([v, .int .i64 (ds11.pt : Int), .int .i64 ds11.mix, .int .i64 ds11.size]), rR u8 5 v ds11.code, rR kW 112 c ((good s).1.2), rR u8 5 v17 (List.replicate (63 + q) 0), rB g41 112 ([.int .i64 (dz10 * 9), v17])] := Hold.newB H10d e19 b19 c19
          clear H10d
          clear e19 b19 c19
          refine ⟨.inr (Hold.ch H11d), ?_⟩
          have H12d : Hold w12 Fd13 w19 [rR kW 112 c ((good s).1.2), rR u8 5 v17 (List.replicate (63 + q) 0), rB g 172 ([v, .int .i64 (ds11.pt : Int), .int .i64 ds11.mix, .int .i64 ds11.size]), rR u8 5 v ds11.code, rB g41 112 ([.int .i64 (dz10 * 9), v17])] := Hold.re H11d [2, 3, 0, 1, 4] (by kernel_rfl) (by rfl)
          clear H11d
          have b21 : B w19 g41 112 ([.int .i64 (dz10 * 9), v17]) := Hold.blk H12d 4 rfl
          obtain ⟨F22, hF22, n22, s22, K22⟩ := Hold.front (Γ := [rR kW 112 c ((good s).1.2), rR u8 5 v17 (List.replicate (63 + q) 0)]) (Δ := [rB g 172 ([v, .int .i64 (ds11.pt : Int), .int .i64 ds11.mix, .int .i64 ds11.size]), rR u8 5 v ds11.code, rB g41 112 ([.int .i64 (dz10 * 9), v17])]) H12d
          obtain ⟨Fa22, _, rfl, Wa22, Fb22, _, rfl, Wb22, rfl⟩ := hF22
          replace Wa22 : Kd.W kW 112 w19 Fa22 c ((good s).1.2) := Wa22
          replace Wb22 : Kd.W u8 5 w19 Fb22 v17 (List.replicate (63 + q) 0) := Wb22
          refine ed1 11 (by kernel_rfl) <| euf rfl (xapb (ys := [(dz10 * 9, List.replicate (63 + q) 0)]) (G := Fb22) Try.underlying47 ti112 rfl rfl rfl Wa22 b21 (els_one (R := Kd.O kW _) (show Kd.O kW _ _ (dz10 * 9, List.replicate (63 + q) 0) _ from ⟨[], _, [_], [_], rfl, rfl, ⟨rfl, rfl⟩, _, rfl, Wb22⟩)) (by simpa using n22) (by simp; omega)) ?_
          rintro v42_20 w20 ⟨F20, A20⟩
          have H13d : Hold w12 Fd13 w20 [rR kW 112 v42_20 (((good s).1.2) ++ [(dz10 * 9, List.replicate (63 + q) 0)]), rB g 172 ([v, .int .i64 (ds11.pt : Int), .int .i64 ds11.mix, .int .i64 ds11.size]), rR u8 5 v ds11.code, rB g41 112 ([.int .i64 (dz10 * 9), v17])] := Hold.apd2 K22 (by simp) Wa22 A20
          clear H12d
          refine ⟨.inr (Hold.ch H13d), ?_⟩
          have H14 : Hold w F w20 [rR kW 112 v42_20 (((good s).1.2) ++ [(dz10 * 9, List.replicate (63 + q) 0)]), rB g 172 ([v, .int .i64 (ds11.pt : Int), .int .i64 ds11.mix, .int .i64 ds11.size]), rR u8 5 v ds11.code, rB g41 112 ([.int .i64 (dz10 * 9), v17]), rR u8 5 a ((good s).1.1), rB g2 49 ([.slice none 0 0, .slice none 0 0]), rB g3 49 ([a, c])] := Hold.call Kd13 H13d
          clear H13d H7
          have b23 : B w20 g3 49 ([a, c]) := Hold.blk H14 6 rfl
          obtain ⟨_, R25⟩ : ∃ F, Kd.R kW w20 F v42_20 (((good s).1.2) ++ [(dz10 * 9, List.replicate (63 + q) 0)]) := Hold.row H14 0 rfl
          refine edt 12 rfl (by kernel_rfl) (fun w' hS => fa Try.underlying49 rfl ti47 rfl z3) (ed1 13 (by kernel_rfl) <| euf0 rfl (xst (vs := [v42_20]) ti47 rfl rfl (cel1 (R25).oneCell) b23 rfl (Nat.le_of_ble_eq_true rfl) (ones1 (R25).oneCell)) ?_)
          rintro w24 ⟨-, b24, c24⟩
          have H15 : Hold w F w24 [rR kW 112 v42_20 (((good s).1.2) ++ [(dz10 * 9, List.replicate (63 + q) 0)]), rB g 172 ([v, .int .i64 (ds11.pt : Int), .int .i64 ds11.mix, .int .i64 ds11.size]), rR u8 5 v ds11.code, rB g41 112 ([.int .i64 (dz10 * 9), v17]), rR u8 5 a ((good s).1.1), rB g2 49 ([.slice none 0 0, .slice none 0 0]), rB g3 49 ([a, v42_20])] := Hold.setB H14 6 rfl b24 c24 rfl
          clear H14
          clear b24 c24
          refine ⟨.inl (by kernel_rfl), ?_⟩
          refine edd (by kernel_rfl) ?_
          refine sq (sq ?_)
          refine gen (fun ρ => ρ 0 = .pointer (some ⟨g, 0, none⟩) ∧ ρ 2 = .pointer (some ⟨g2, 0, none⟩) ∧ ρ 3 = .pointer (some ⟨g3, 0, none⟩) ∧ ρ 4 = .int .i64 dz8 ∧ True) ⟨z0, z2, z3, z4, trivial⟩ ?_
          rintro ρ ⟨z0, z2, z3, z4, -⟩
          refine rg (r (mv z4) (r (bi rfl rfl rfl) (re ?_)))
          refine cf ((rfl : _ = Value.bool (decide (dz8 = 4))).trans (congrArg Value.bool (show (decide (dz8 = 4)) = false from (decide_eq_false (by omega))))) ?_
          refine sk (sq (sq (rg (r (mv z4) (r (bi rfl rfl rfl) (re ?_))))))
          refine cf ((rfl : _ = Value.bool (decide (dz8 = 5))).trans (congrArg Value.bool (show (decide (dz8 = 5)) = false from (decide_eq_false (by omega))))) ?_
          have b26 : B w24 g3 49 ([a, v42_20]) := Hold.blk H15 6 rfl
          have b27 : B w24 g2 49 ([.slice none 0 0, .slice none 0 0]) := Hold.blk H15 5 rfl
          obtain ⟨_, R29⟩ : ∃ F, Kd.R kW w24 F v42_20 (((good s).1.2) ++ [(dz10 * 9, List.replicate (63 + q) 0)]) := Hold.row H15 0 rfl
          obtain ⟨_, R30⟩ : ∃ F, Kd.R u8 w24 F a ((good s).1.1) := Hold.row H15 4 rfl
          refine sk (sq (rg (r (lab [a, v42_20] Try.underlying49 rfl ti49 z3 b26 rfl rfl) (ef0 (xst (vs := [a, v42_20]) ti49 z2 rfl rfl b27 rfl (Nat.le_of_ble_eq_true rfl) (oc (R30).oneCell (oc (R29).oneCell on))) ?_))))
          rintro w28 ⟨-, b28, c28⟩
          have H16 : Hold w F w28 [rR kW 112 v42_20 (((good s).1.2) ++ [(dz10 * 9, List.replicate (63 + q) 0)]), rB g 172 ([v, .int .i64 (ds11.pt : Int), .int .i64 ds11.mix, .int .i64 ds11.size]), rR u8 5 v ds11.code, rB g41 112 ([.int .i64 (dz10 * 9), v17]), rR u8 5 a ((good s).1.1), rB g2 49 ([a, v42_20]), rB g3 49 ([a, v42_20])] := Hold.setB H15 5 rfl b28 c28 rfl
          clear H15
          clear b28 c28
          refine re (rt ?_)
          have eD : drawDisk s = (((good s).1.1, (good s).1.2 ++ [(dz10 * 9, List.replicate (63 + q) 0)]), ds11) := by
            unfold drawDisk
            rw [eK, eS, if_neg h0, if_neg h1, if_neg h2, if_pos h3]
            rw [← hz10, ← hs10, ← hz11, ← hs11, hm11, Int.toNat_natCast]
          rw [eD]
          have b31 : B w28 g2 49 ([a, v42_20]) := Hold.blk H16 5 rfl
          have H17 : Hold w F w28 [rB g 172 ([v, .int .i64 (ds11.pt : Int), .int .i64 ds11.mix, .int .i64 ds11.size]), rR u8 5 v ds11.code, rR u8 5 a ((good s).1.1), rR kW 112 v42_20 (((good s).1.2) ++ [(dz10 * 9, List.replicate (63 + q) 0)])] := (show Hold w F w28 ([rB g 172 ([v, .int .i64 (ds11.pt : Int), .int .i64 ds11.mix, .int .i64 ds11.size]), rR u8 5 v ds11.code, rR u8 5 a ((good s).1.1), rR kW 112 v42_20 (((good s).1.2) ++ [(dz10 * 9, List.replicate (63 + q) 0)])] ++ [rB g41 112 ([.int .i64 (dz10 * 9), v17]), rB g2 49 ([a, v42_20]), rB g3 49 ([a, v42_20])]) from Hold.re H16 [1, 2, 4, 0, 3, 5, 6] (by kernel_rfl) (by rfl)).drop
          clear H16
          exact finc  (cs := [a, v42_20]) Try.results139 Try.underlying49 rfl ti49 z2 b31 rfl  ⟨_, _, rfl, H17⟩
        · refine sk (sq (sq (rg (r (mv z4) (r (bi rfl rfl rfl) (re ?_))))))
          refine cp rfl (fun h4 => ?_) (fun h4 => ?_)
          · refine rde mixed ?_
            intro w10 c10
            have H6 : Hold w F w10 [rB g 172 ([v, .int .i64 (ds8.pt : Int), .int .i64 ds8.mix, .int .i64 ds8.size]), rR u8 5 v ds8.code, rR u8 5 a ((good s).1.1), rR kW 112 c ((good s).1.2), rB g2 49 ([.slice none 0 0, .slice none 0 0]), rB g3 49 ([a, c])] := Hold.t H5 c10
            clear H5
            clear c10
            have H7 : Hold w F w10 [rR kW 112 c ((good s).1.2), rB g 172 ([v, .int .i64 (ds8.pt : Int), .int .i64 ds8.mix, .int .i64 ds8.size]), rR u8 5 v ds8.code, rR u8 5 a ((good s).1.1), rB g2 49 ([.slice none 0 0, .slice none 0 0]), rB g3 49 ([a, c])] := Hold.re H6 [3, 0, 1, 2, 4, 5] (by kernel_rfl) (by rfl)
            clear H6
            obtain ⟨Fd11, hFd11, nd11, Kd11, Xd11, sd11⟩ := Hold.frontx (Γ := [rR kW 112 c ((good s).1.2)]) (Δ := [rB g 172 ([v, .int .i64 (ds8.pt : Int), .int .i64 ds8.mix, .int .i64 ds8.size]), rR u8 5 v ds8.code, rR u8 5 a ((good s).1.1), rB g2 49 ([.slice none 0 0, .slice none 0 0]), rB g3 49 ([a, c])]) H7
            have H11d0 : Hold w10 Fd11 w10 [rR kW 112 c ((good s).1.2)] := Hold.begin hFd11 nd11
            refine ⟨fun w' => Ch Fd11 w10 w', Ch.refl _ _, ?_⟩
            obtain ⟨_, ⟨rfl, b12⟩, x12⟩ := Xd11 4 (rB g3 49 ([a, c])) rfl
            refine edt 0 rfl (by kernel_rfl) (fun w' hS => fa Try.underlying49 rfl ti47 rfl z3) (edt 1 rfl (by kernel_rfl) (fun w' hS => ldb Try.underlying47 rfl rfl (hS.b b12 (x12 _ (by simp))) rfl) (ed1 2 (by kernel_rfl) <| euf rfl (xmk (dk := u8) (m := 64) 0 Try.underlying40 ti5 (fun _ => ⟨rfl, rfl⟩) rfl rfl (by omega)) ?_))
            rintro v13 w13 N13
            have H8d : Hold w10 Fd11 w13 [rR kW 112 c ((good s).1.2), rR u8 5 v13 (List.replicate 64 0)] := Hold.newr H11d0 N13
            clear H11d0
            refine ⟨.inr (Hold.ch H8d), ?_⟩
            obtain ⟨_, R14⟩ : ∃ F, Kd.R u8 w13 F v13 (List.replicate 64 0) := Hold.row H8d 1 rfl
            refine ed1 3 (by kernel_rfl) <| eur rfl (bd (r := [.int .i64 (-1), v13]) ti112 pl112 (pc rfl (cel1 rfl) (pc rfl (cel1 (R14).oneCell) pn)) rfl) (.inr (Hold.ch H8d)) (ed1 4 (by kernel_rfl) <| euf rfl (xbs1 (cs := [.int .i64 (-1), v13]) Try.underlying47 ti112 rfl rfl rfl rfl rfl) ?_)
            rintro _ w15 ⟨g50, e15, rfl, -, b15, c15⟩
            have H9d : Hold w10 Fd11 w15 [rR kW 112 c ((good s).1.2), rR u8 5 v13 (List.replicate 64 0), rB g50 112 ([.int .i64 (-1), v13])] := Hold.newB H8d e15 b15 c15
            clear H8d
            clear e15 b15 c15
            refine ⟨.inr (Hold.ch H9d), ?_⟩
            have b17 : B w15 g50 112 ([.int .i64 (-1), v13]) := Hold.blk H9d 2 rfl
            obtain ⟨F18, hF18, n18, s18, K18⟩ := Hold.front (Γ := [rR kW 112 c ((good s).1.2), rR u8 5 v13 (List.replicate 64 0)]) (Δ := [rB g50 112 ([.int .i64 (-1), v13])]) H9d
            obtain ⟨Fa18, _, rfl, Wa18, Fb18, _, rfl, Wb18, rfl⟩ := hF18
            replace Wa18 : Kd.W kW 112 w15 Fa18 c ((good s).1.2) := Wa18
            replace Wb18 : Kd.W u8 5 w15 Fb18 v13 (List.replicate 64 0) := Wb18
            refine ed1 5 (by kernel_rfl) <| euf rfl (xapb (ys := [(-1, List.replicate 64 0)]) (G := Fb18) Try.underlying47 ti112 rfl rfl rfl Wa18 b17 (els_one (R := Kd.O kW _) (show Kd.O kW _ _ (-1, List.replicate 64 0) _ from ⟨[], _, [_], [_], rfl, rfl, ⟨rfl, rfl⟩, _, rfl, Wb18⟩)) (by simpa using n18) (by simp; omega)) ?_
            rintro v51_16 w16 ⟨F16, A16⟩
            have H10d : Hold w10 Fd11 w16 [rR kW 112 v51_16 (((good s).1.2) ++ [(-1, List.replicate 64 0)]), rB g50 112 ([.int .i64 (-1), v13])] := Hold.apd2 K18 (by simp) Wa18 A16
            clear H9d
            refine ⟨.inr (Hold.ch H10d), ?_⟩
            have H11 : Hold w F w16 [rR kW 112 v51_16 (((good s).1.2) ++ [(-1, List.replicate 64 0)]), rB g50 112 ([.int .i64 (-1), v13]), rB g 172 ([v, .int .i64 (ds8.pt : Int), .int .i64 ds8.mix, .int .i64 ds8.size]), rR u8 5 v ds8.code, rR u8 5 a ((good s).1.1), rB g2 49 ([.slice none 0 0, .slice none 0 0]), rB g3 49 ([a, c])] := Hold.call Kd11 H10d
            clear H10d H7
            have b19 : B w16 g3 49 ([a, c]) := Hold.blk H11 6 rfl
            obtain ⟨_, R21⟩ : ∃ F, Kd.R kW w16 F v51_16 (((good s).1.2) ++ [(-1, List.replicate 64 0)]) := Hold.row H11 0 rfl
            refine edt 6 rfl (by kernel_rfl) (fun w' hS => fa Try.underlying49 rfl ti47 rfl z3) (ed1 7 (by kernel_rfl) <| euf0 rfl (xst (vs := [v51_16]) ti47 rfl rfl (cel1 (R21).oneCell) b19 rfl (Nat.le_of_ble_eq_true rfl) (ones1 (R21).oneCell)) ?_)
            rintro w20 ⟨-, b20, c20⟩
            have H12 : Hold w F w20 [rR kW 112 v51_16 (((good s).1.2) ++ [(-1, List.replicate 64 0)]), rB g50 112 ([.int .i64 (-1), v13]), rB g 172 ([v, .int .i64 (ds8.pt : Int), .int .i64 ds8.mix, .int .i64 ds8.size]), rR u8 5 v ds8.code, rR u8 5 a ((good s).1.1), rB g2 49 ([.slice none 0 0, .slice none 0 0]), rB g3 49 ([a, v51_16])] := Hold.setB H11 6 rfl b20 c20 rfl
            clear H11
            clear b20 c20
            refine ⟨.inl (by kernel_rfl), ?_⟩
            refine edd (by kernel_rfl) ?_
            refine sq (sq ?_)
            refine gen (fun ρ => ρ 0 = .pointer (some ⟨g, 0, none⟩) ∧ ρ 2 = .pointer (some ⟨g2, 0, none⟩) ∧ ρ 3 = .pointer (some ⟨g3, 0, none⟩) ∧ ρ 4 = .int .i64 dz8 ∧ True) ⟨z0, z2, z3, z4, trivial⟩ ?_
            rintro ρ ⟨z0, z2, z3, z4, -⟩
            refine rg (r (mv z4) (r (bi rfl rfl rfl) (re ?_)))
            refine cf ((rfl : _ = Value.bool (decide (dz8 = 5))).trans (congrArg Value.bool (show (decide (dz8 = 5)) = false from (decide_eq_false (by omega))))) ?_
            have b22 : B w20 g3 49 ([a, v51_16]) := Hold.blk H12 6 rfl
            have b23 : B w20 g2 49 ([.slice none 0 0, .slice none 0 0]) := Hold.blk H12 5 rfl
            obtain ⟨_, R25⟩ : ∃ F, Kd.R kW w20 F v51_16 (((good s).1.2) ++ [(-1, List.replicate 64 0)]) := Hold.row H12 0 rfl
            obtain ⟨_, R26⟩ : ∃ F, Kd.R u8 w20 F a ((good s).1.1) := Hold.row H12 4 rfl
            refine sk (sq (rg (r (lab [a, v51_16] Try.underlying49 rfl ti49 z3 b22 rfl rfl) (ef0 (xst (vs := [a, v51_16]) ti49 z2 rfl rfl b23 rfl (Nat.le_of_ble_eq_true rfl) (oc (R26).oneCell (oc (R25).oneCell on))) ?_))))
            rintro w24 ⟨-, b24, c24⟩
            have H13 : Hold w F w24 [rR kW 112 v51_16 (((good s).1.2) ++ [(-1, List.replicate 64 0)]), rB g50 112 ([.int .i64 (-1), v13]), rB g 172 ([v, .int .i64 (ds8.pt : Int), .int .i64 ds8.mix, .int .i64 ds8.size]), rR u8 5 v ds8.code, rR u8 5 a ((good s).1.1), rB g2 49 ([a, v51_16]), rB g3 49 ([a, v51_16])] := Hold.setB H12 5 rfl b24 c24 rfl
            clear H12
            clear b24 c24
            refine re (rt ?_)
            have eD : drawDisk s = (((good s).1.1, (good s).1.2 ++ [(-1, List.replicate 64 0)]), ds8) := by
              unfold drawDisk
              rw [eK, eS, if_neg h0, if_neg h1, if_neg h2, if_neg h3, if_pos h4]
            rw [eD]
            have b27 : B w24 g2 49 ([a, v51_16]) := Hold.blk H13 5 rfl
            have H14 : Hold w F w24 [rB g 172 ([v, .int .i64 (ds8.pt : Int), .int .i64 ds8.mix, .int .i64 ds8.size]), rR u8 5 v ds8.code, rR u8 5 a ((good s).1.1), rR kW 112 v51_16 (((good s).1.2) ++ [(-1, List.replicate 64 0)])] := (show Hold w F w24 ([rB g 172 ([v, .int .i64 (ds8.pt : Int), .int .i64 ds8.mix, .int .i64 ds8.size]), rR u8 5 v ds8.code, rR u8 5 a ((good s).1.1), rR kW 112 v51_16 (((good s).1.2) ++ [(-1, List.replicate 64 0)])] ++ [rB g50 112 ([.int .i64 (-1), v13]), rB g2 49 ([a, v51_16]), rB g3 49 ([a, v51_16])]) from Hold.re H13 [2, 3, 4, 0, 1, 5, 6] (by kernel_rfl) (by rfl)).drop
            clear H13
            exact finc  (cs := [a, v51_16]) Try.results139 Try.underlying49 rfl ti49 z2 b27 rfl  ⟨_, _, rfl, H14⟩
          · refine sk (sq (sq (rg (r (mv z4) (r (bi rfl rfl rfl) (re ?_))))))
            refine cp rfl (fun h5 => ?_) (fun h5 => ?_)
            · have da10 := nx_0 (n := 3) do8
              have dc10 := nx_1 (s := ds8) (n := 3) (by omega)
              have do10 := nx_ok (n := 3) do8
              obtain ⟨dz10, hz10⟩ : ∃ z, z = (nx ds8 3).1 := ⟨_, rfl⟩
              obtain ⟨ds10, hs10⟩ : ∃ z, z = (nx ds8 3).2 := ⟨_, rfl⟩
              rw [← hz10] at da10 dc10
              rw [← hs10] at do10
              obtain ⟨q, hm10⟩ : ∃ m : Nat, dz10 = (m : Int) := ⟨dz10.toNat, by omega⟩
              obtain ⟨F11, hF11, n11, s11, K11⟩ := Hold.front (Γ := [rB g 172 ([v, .int .i64 (ds8.pt : Int), .int .i64 ds8.mix, .int .i64 ds8.size]), rR u8 5 v ds8.code]) (Δ := [rR u8 5 a ((good s).1.1), rR kW 112 c ((good s).1.2), rB g2 49 ([.slice none 0 0, .slice none 0 0]), rB g3 49 ([a, c])]) H5
              refine sq (rg (r (mv z0) (cl go111 (l1Next (s := ds8) (m := 3) hF11 n11 do8 (by omega)) (ac rfl (ac rfl an)) ?_)))
              rintro r wn10 ⟨er10, Hn10⟩
              rw [← hz10, hm10] at er10
              rw [← hs10] at Hn10
              subst er10
              have H6 : Hold w F wn10 [rB g 172 ([v, .int .i64 (ds10.pt : Int), .int .i64 ds10.mix, .int .i64 ds10.size]), rR u8 5 v ds10.code, rR u8 5 a ((good s).1.1), rR kW 112 c ((good s).1.2), rB g2 49 ([.slice none 0 0, .slice none 0 0]), rB g3 49 ([a, c])] := Hold.call K11 Hn10
              clear H5
              clear K11 hF11 n11 s11
              clear Hn10
              refine r (ad (a := 399) (b := (q : Int)) (((399 + q : Nat) : Int)) rfl rfl (by omega)) (r (sa rfl) (re (bl ?_)))
              refine lp (α := Nat × Value) (fun (j, o) ρ w' => ρ 2 = .pointer (some ⟨g2, 0, none⟩) ∧ ρ 3 = .pointer (some ⟨g3, 0, none⟩) ∧ ρ 5 = .int .i64 ((399 + q : Nat) : Int) ∧ Hold w F w' [rB g 172 ([v, .int .i64 (ds10.pt : Int), .int .i64 ds10.mix, .int .i64 ds10.size]), rR u8 5 v ds10.code, rR u8 5 a ((good s).1.1), rR kW 112 o ((good s).1.2 ++ List.replicate j (0, List.replicate 64 0)), rB g2 49 ([.slice none 0 0, .slice none 0 0]), rB g3 49 ([a, o])] ∧ j ≤ 399 + q - (good s).1.2.length) (fun (j, o) => 399 + q - (good s).1.2.length - j) (0, c) ?_ ?_
              · exact ⟨z2, z3, rfl, (by simpa using H6), by omega⟩
              clear H6
              rintro ⟨j, o⟩ ρ w507 ⟨y2, y3, y5, H7, hj⟩
              have b12 : B w507 g3 49 ([a, o]) := Hold.blk H7 5 rfl
              obtain ⟨_, R13⟩ : ∃ F, Kd.R kW w507 F o ((good s).1.2 ++ List.replicate j (0, List.replicate 64 0)) := Hold.row H7 3 rfl
              refine sq (sq (rg (r (fa Try.underlying49 rfl ti47 rfl y3) (r (ldb Try.underlying47 rfl rfl b12 rfl) (r (ln Try.underlying47 rfl (R13)) (r (mv y5) (r (bi rfl rfl rfl) (re ?_))))))))
              refine cp rfl (fun hw => ?_) (fun hw => ?_)
              · simp only [List.length_append, List.length_replicate] at hw
                refine sk (bl ?_)
                refine rde mixed ?_
                intro w14 c14
                have H8 : Hold w F w14 [rB g 172 ([v, .int .i64 (ds10.pt : Int), .int .i64 ds10.mix, .int .i64 ds10.size]), rR u8 5 v ds10.code, rR u8 5 a ((good s).1.1), rR kW 112 o ((good s).1.2 ++ List.replicate j (0, List.replicate 64 0)), rB g2 49 ([.slice none 0 0, .slice none 0 0]), rB g3 49 ([a, o])] := Hold.t H7 c14
                clear H7
                clear c14
                have H9 : Hold w F w14 [rR kW 112 o ((good s).1.2 ++ List.replicate j (0, List.replicate 64 0)), rB g 172 ([v, .int .i64 (ds10.pt : Int), .int .i64 ds10.mix, .int .i64 ds10.size]), rR u8 5 v ds10.code, rR u8 5 a ((good s).1.1), rB g2 49 ([.slice none 0 0, .slice none 0 0]), rB g3 49 ([a, o])] := Hold.re H8 [3, 0, 1, 2, 4, 5] (by kernel_rfl) (by rfl)
                clear H8
                obtain ⟨Fd15, hFd15, nd15, Kd15, Xd15, sd15⟩ := Hold.frontx (Γ := [rR kW 112 o ((good s).1.2 ++ List.replicate j (0, List.replicate 64 0))]) (Δ := [rB g 172 ([v, .int .i64 (ds10.pt : Int), .int .i64 ds10.mix, .int .i64 ds10.size]), rR u8 5 v ds10.code, rR u8 5 a ((good s).1.1), rB g2 49 ([.slice none 0 0, .slice none 0 0]), rB g3 49 ([a, o])]) H9
                have H15d0 : Hold w14 Fd15 w14 [rR kW 112 o ((good s).1.2 ++ List.replicate j (0, List.replicate 64 0))] := Hold.begin hFd15 nd15
                refine ⟨fun w' => Ch Fd15 w14 w', Ch.refl _ _, ?_⟩
                obtain ⟨_, ⟨rfl, b16⟩, x16⟩ := Xd15 4 (rB g3 49 ([a, o])) rfl
                refine edt 0 rfl (by kernel_rfl) (fun w' hS => fa Try.underlying49 rfl ti47 rfl y3) (edt 1 rfl (by kernel_rfl) (fun w' hS => ldb Try.underlying47 rfl rfl (hS.b b16 (x16 _ (by simp))) rfl) (ed1 2 (by kernel_rfl) <| euf rfl (xmk (dk := u8) (m := 64) 0 Try.underlying40 ti5 (fun _ => ⟨rfl, rfl⟩) rfl rfl (by omega)) ?_))
                rintro v17 w17 N17
                have H10d : Hold w14 Fd15 w17 [rR kW 112 o ((good s).1.2 ++ List.replicate j (0, List.replicate 64 0)), rR u8 5 v17 (List.replicate 64 0)] := Hold.newr H15d0 N17
                clear H15d0
                refine ⟨.inr (Hold.ch H10d), ?_⟩
                obtain ⟨_, R18⟩ : ∃ F, Kd.R u8 w17 F v17 (List.replicate 64 0) := Hold.row H10d 1 rfl
                refine ed1 3 (by kernel_rfl) <| eur rfl (bd (r := [.int .i64 0, v17]) ti112 pl112 (pc rfl (cel1 (R18).oneCell) pn) rfl) (.inr (Hold.ch H10d)) (ed1 4 (by kernel_rfl) <| euf rfl (xbs1 (cs := [.int .i64 0, v17]) Try.underlying47 ti112 rfl rfl rfl rfl rfl) ?_)
                rintro _ w19 ⟨g67, e19, rfl, -, b19, c19⟩
                have H11d : Hold w14 Fd15 w19 [rR kW 112 o ((good s).1.2 ++ List.replicate j (0, List.replicate 64 0)), rR u8 5 v17 (List.replicate 64 0), rB g67 112 ([.int .i64 0, v17])] := Hold.newB H10d e19 b19 c19
                clear H10d
                clear e19 b19 c19
                refine ⟨.inr (Hold.ch H11d), ?_⟩
                have b21 : B w19 g67 112 ([.int .i64 0, v17]) := Hold.blk H11d 2 rfl
                obtain ⟨F22, hF22, n22, s22, K22⟩ := Hold.front (Γ := [rR kW 112 o ((good s).1.2 ++ List.replicate j (0, List.replicate 64 0)), rR u8 5 v17 (List.replicate 64 0)]) (Δ := [rB g67 112 ([.int .i64 0, v17])]) H11d
                obtain ⟨Fa22, _, rfl, Wa22, Fb22, _, rfl, Wb22, rfl⟩ := hF22
                replace Wa22 : Kd.W kW 112 w19 Fa22 o ((good s).1.2 ++ List.replicate j (0, List.replicate 64 0)) := Wa22
                replace Wb22 : Kd.W u8 5 w19 Fb22 v17 (List.replicate 64 0) := Wb22
                refine ed1 5 (by kernel_rfl) <| euf rfl (xapb (ys := [(0, List.replicate 64 0)]) (G := Fb22) Try.underlying47 ti112 rfl rfl rfl Wa22 b21 (els_one (R := Kd.O kW _) (show Kd.O kW _ _ (0, List.replicate 64 0) _ from ⟨[], _, [_], [_], rfl, rfl, ⟨rfl, rfl⟩, _, rfl, Wb22⟩)) (by simpa using n22) (by simp; omega)) ?_
                rintro v68_20 w20 ⟨F20, A20⟩
                have H12d : Hold w14 Fd15 w20 [rR kW 112 v68_20 (((good s).1.2 ++ List.replicate j (0, List.replicate 64 0)) ++ [(0, List.replicate 64 0)]), rB g67 112 ([.int .i64 0, v17])] := Hold.apd2 K22 (by simp) Wa22 A20
                clear H11d
                refine ⟨.inr (Hold.ch H12d), ?_⟩
                have H13 : Hold w F w20 [rR kW 112 v68_20 (((good s).1.2 ++ List.replicate j (0, List.replicate 64 0)) ++ [(0, List.replicate 64 0)]), rB g67 112 ([.int .i64 0, v17]), rB g 172 ([v, .int .i64 (ds10.pt : Int), .int .i64 ds10.mix, .int .i64 ds10.size]), rR u8 5 v ds10.code, rR u8 5 a ((good s).1.1), rB g2 49 ([.slice none 0 0, .slice none 0 0]), rB g3 49 ([a, o])] := Hold.call Kd15 H12d
                clear H12d H9
                have b23 : B w20 g3 49 ([a, o]) := Hold.blk H13 6 rfl
                obtain ⟨_, R25⟩ : ∃ F, Kd.R kW w20 F v68_20 (((good s).1.2 ++ List.replicate j (0, List.replicate 64 0)) ++ [(0, List.replicate 64 0)]) := Hold.row H13 0 rfl
                refine edt 6 rfl (by kernel_rfl) (fun w' hS => fa Try.underlying49 rfl ti47 rfl y3) (ed1 7 (by kernel_rfl) <| euf0 rfl (xst (vs := [v68_20]) ti47 rfl rfl (cel1 (R25).oneCell) b23 rfl (Nat.le_of_ble_eq_true rfl) (ones1 (R25).oneCell)) ?_)
                rintro w24 ⟨-, b24, c24⟩
                have H14 : Hold w F w24 [rR kW 112 v68_20 (((good s).1.2 ++ List.replicate j (0, List.replicate 64 0)) ++ [(0, List.replicate 64 0)]), rB g67 112 ([.int .i64 0, v17]), rB g 172 ([v, .int .i64 (ds10.pt : Int), .int .i64 ds10.mix, .int .i64 ds10.size]), rR u8 5 v ds10.code, rR u8 5 a ((good s).1.1), rB g2 49 ([.slice none 0 0, .slice none 0 0]), rB g3 49 ([a, v68_20])] := Hold.setB H13 6 rfl b24 c24 rfl
                clear H13
                clear b24 c24
                refine ⟨.inl (by kernel_rfl), ?_⟩
                refine edd (by kernel_rfl) ?_
                refine be ?_
                have H15 : Hold w F w24 [rB g 172 ([v, .int .i64 (ds10.pt : Int), .int .i64 ds10.mix, .int .i64 ds10.size]), rR u8 5 v ds10.code, rR u8 5 a ((good s).1.1), rR kW 112 v68_20 (((good s).1.2 ++ List.replicate j (0, List.replicate 64 0)) ++ [(0, List.replicate 64 0)]), rB g2 49 ([.slice none 0 0, .slice none 0 0]), rB g3 49 ([a, v68_20])] := (show Hold w F w24 ([rB g 172 ([v, .int .i64 (ds10.pt : Int), .int .i64 ds10.mix, .int .i64 ds10.size]), rR u8 5 v ds10.code, rR u8 5 a ((good s).1.1), rR kW 112 v68_20 (((good s).1.2 ++ List.replicate j (0, List.replicate 64 0)) ++ [(0, List.replicate 64 0)]), rB g2 49 ([.slice none 0 0, .slice none 0 0]), rB g3 49 ([a, v68_20])] ++ [rB g67 112 ([.int .i64 0, v17])]) from Hold.re H14 [2, 3, 4, 0, 5, 6, 1] (by kernel_rfl) (by rfl)).drop
                clear H14
                exact ag (j + 1, v68_20) ⟨y2, y3, y5, (by rw [List.replicate_succ', ← List.append_assoc]; exact H15), by omega⟩ (by first | omega | (dsimp only; omega))
              · simp only [List.length_append, List.length_replicate] at hw
                obtain rfl : j = 399 + q - (good s).1.2.length := by omega
                have b14 : B w507 g2 49 ([.slice none 0 0, .slice none 0 0]) := Hold.blk H7 4 rfl
                obtain ⟨_, R16⟩ : ∃ F, Kd.R u8 w507 F a ((good s).1.1) := Hold.row H7 2 rfl
                refine ex rfl (sq (rg (r (lab [a, o] Try.underlying49 rfl ti49 y3 b12 rfl rfl) (ef0 (xst (vs := [a, o]) ti49 y2 rfl rfl b14 rfl (Nat.le_of_ble_eq_true rfl) (oc (R16).oneCell (oc (R13).oneCell on))) ?_))))
                rintro w15 ⟨-, b15, c15⟩
                have H8 : Hold w F w15 [rB g 172 ([v, .int .i64 (ds10.pt : Int), .int .i64 ds10.mix, .int .i64 ds10.size]), rR u8 5 v ds10.code, rR u8 5 a ((good s).1.1), rR kW 112 o ((good s).1.2 ++ List.replicate (399 + q - (good s).1.2.length) (0, List.replicate 64 0)), rB g2 49 ([a, o]), rB g3 49 ([a, o])] := Hold.setB H7 4 rfl b15 c15 rfl
                clear H7
                clear b15 c15
                refine re (rt ?_)
                have eD : drawDisk s = (((good s).1.1, (good s).1.2 ++ List.replicate (399 + q - (good s).1.2.length) (0, List.replicate 64 0)), ds10) := by
                  unfold drawDisk
                  rw [eK, eS, if_neg h0, if_neg h1, if_neg h2, if_neg h3, if_neg h4, if_pos h5]
                  rw [← hz10, ← hs10, hm10, Int.toNat_natCast]
                rw [eD]
                have b17 : B w15 g2 49 ([a, o]) := Hold.blk H8 4 rfl
                have H9 : Hold w F w15 [rB g 172 ([v, .int .i64 (ds10.pt : Int), .int .i64 ds10.mix, .int .i64 ds10.size]), rR u8 5 v ds10.code, rR u8 5 a ((good s).1.1), rR kW 112 o ((good s).1.2 ++ List.replicate (399 + q - (good s).1.2.length) (0, List.replicate 64 0))] := (show Hold w F w15 ([rB g 172 ([v, .int .i64 (ds10.pt : Int), .int .i64 ds10.mix, .int .i64 ds10.size]), rR u8 5 v ds10.code, rR u8 5 a ((good s).1.1), rR kW 112 o ((good s).1.2 ++ List.replicate (399 + q - (good s).1.2.length) (0, List.replicate 64 0))] ++ [rB g2 49 ([a, o]), rB g3 49 ([a, o])]) from Hold.re H8 [0, 1, 2, 3, 4, 5] (by kernel_rfl) (by rfl)).drop
                clear H8
                exact finc  (cs := [a, o]) Try.results139 Try.underlying49 rfl ti49 y2 b17 rfl  ⟨_, _, rfl, H9⟩
            · have b10 : B wn8 g3 49 ([a, c]) := Hold.blk H5 5 rfl
              have b11 : B wn8 g2 49 ([.slice none 0 0, .slice none 0 0]) := Hold.blk H5 4 rfl
              obtain ⟨_, R13⟩ : ∃ F, Kd.R kW wn8 F c ((good s).1.2) := Hold.row H5 3 rfl
              obtain ⟨_, R14⟩ : ∃ F, Kd.R u8 wn8 F a ((good s).1.1) := Hold.row H5 2 rfl
              refine sk (sq (rg (r (lab [a, c] Try.underlying49 rfl ti49 z3 b10 rfl rfl) (ef0 (xst (vs := [a, c]) ti49 z2 rfl rfl b11 rfl (Nat.le_of_ble_eq_true rfl) (oc (R14).oneCell (oc (R13).oneCell on))) ?_))))
              rintro w12 ⟨-, b12, c12⟩
              have H6 : Hold w F w12 [rB g 172 ([v, .int .i64 (ds8.pt : Int), .int .i64 ds8.mix, .int .i64 ds8.size]), rR u8 5 v ds8.code, rR u8 5 a ((good s).1.1), rR kW 112 c ((good s).1.2), rB g2 49 ([a, c]), rB g3 49 ([a, c])] := Hold.setB H5 4 rfl b12 c12 rfl
              clear H5
              clear b12 c12
              refine re (rt ?_)
              have eD : drawDisk s = ((good s).1, ds8) := by
                unfold drawDisk
                rw [eK, eS, if_neg h0, if_neg h1, if_neg h2, if_neg h3, if_neg h4, if_neg h5]
              rw [eD]
              have b15 : B w12 g2 49 ([a, c]) := Hold.blk H6 4 rfl
              have H7 : Hold w F w12 [rB g 172 ([v, .int .i64 (ds8.pt : Int), .int .i64 ds8.mix, .int .i64 ds8.size]), rR u8 5 v ds8.code, rR u8 5 a ((good s).1.1), rR kW 112 c ((good s).1.2)] := (show Hold w F w12 ([rB g 172 ([v, .int .i64 (ds8.pt : Int), .int .i64 ds8.mix, .int .i64 ds8.size]), rR u8 5 v ds8.code, rR u8 5 a ((good s).1.1), rR kW 112 c ((good s).1.2)] ++ [rB g2 49 ([a, c]), rB g3 49 ([a, c])]) from Hold.re H6 [0, 1, 2, 3, 4, 5] (by kernel_rfl) (by rfl)).drop
              clear H6
              exact finc  (cs := [a, c]) Try.results139 Try.underlying49 rfl ti49 z2 b15 rfl  ⟨_, _, rfl, H7⟩
/-- What FnDisk wants of a drawn disk's lengths. -/
structure Sw (D : Dsk) : Prop where
  x : D.1.length ≤ 1000000000
  p : D.2.length ≤ 2000000
  xx : ∀ x, x ∈ D.2 → x.2.length ≤ 1000000000
theorem drawDisk_sw {s : Src} (ok : SrcOk s) : Sw (drawDisk s).1 := by
  obtain ⟨h1, h2, h3, -⟩ := good_sm s
  have o1 := nx_ok (n := 30) (good_ok ok)
  have a1 := nx_0 (n := 2) o1
  have a2 := nx_1 (s := ddS s) (n := 2) (by omega)
  have a3 := nx_0 (n := 3) o1
  have a4 := nx_1 (s := ddS s) (n := 3) (by omega)
  have a5 := nx_0 (n := 3) (nx_ok (n := 2) o1)
  have a6 := nx_1 (s := (nx (ddS s) 2).2) (n := 3) (by omega)
  change 0 ≤ (nx (ddS s) 2).1 at a1
  change 0 ≤ (nx (ddS s) 3).1 at a3
  change 0 ≤ (nx (nx (ddS s) 2).2 3).1 at a5
  unfold drawDisk
  split
  · exact ⟨by simp; omega, by simp; omega, h3⟩
  · split
    · exact ⟨by simp, by simp; omega, h3⟩
    · split
      · exact ⟨by simp; omega, by simp; omega, h3⟩
      · split
        · refine ⟨by simp; omega, by simp; omega, fun x hx => ?_⟩
          rcases List.mem_append.1 hx with hx | hx
          · exact h3 x hx
          · rw [List.mem_singleton.1 hx]; simp; omega
        · split
          · refine ⟨by simp; omega, by simp; omega, fun x hx => ?_⟩
            rcases List.mem_append.1 hx with hx | hx
            · exact h3 x hx
            · rw [List.mem_singleton.1 hx]; simp
          · split
            · refine ⟨by simp; omega, by simp; omega, fun x hx => ?_⟩
              rcases List.mem_append.1 hx with hx | hx
              · exact h3 x hx
              · rw [List.eq_of_mem_replicate hx]; simp
            · exact ⟨by dsimp only; omega, by dsimp only; omega, h3⟩
theorem drawDisk_ok {s : Src} (ok : SrcOk s) : SrcOk (drawDisk s).2 := by
  have o1 : SrcOk (ddS s) := nx_ok (n := 30) (good_ok ok)
  unfold drawDisk
  repeat (first | exact o1 | exact nx_ok o1 | exact nx_ok (nx_ok o1) | split)
/-- A drawn write: the disk, the block, the bytes. -/
def dwN (xs : List Int) : Int := blks (drawDisk (srcOf xs)).1.1
def dwB (xs : List Int) : Int × Src := nx (drawDisk (srcOf xs)).2 (dwN xs)
def dwF (xs : List Int) : List Int × Src := fill (dwB xs).2
def dwK (xs : List Int) : Int := (nx (dwF xs).2 16).1
def dwBk (xs : List Int) : Int := if dwK xs = 1 then dwN xs else if dwK xs = 2 then -1 else (dwB xs).1
def dwDt (xs : List Int) : List Int := if dwK xs = 0 then (dwF xs).1.drop 1 else (dwF xs).1
def dwDk (xs : List Int) : Dsk := (drawDisk (srcOf xs)).1
theorem dwDt_ok8 {xs : List Int} (h : ok8 xs) : ok8 (dwDt xs) := by
  have := fill_ok8 (s := (dwB xs).2) (nx_ok (drawDisk_ok (srcOf_ok h)))
  unfold dwDt; split
  · exact ok8_drop this _
  · exact this
theorem dwDt_len {xs : List Int} : (dwDt xs).length ≤ 64 := by
  have := fill_len (dwB xs).2
  unfold dwDt; split
  · simp only [List.length_drop]; unfold dwF; omega
  · unfold dwF; omega
theorem R_widen {w : World} {F F' : List Nat} {v : Value} {xs : List Int} (h : u8.R w F' v xs) (hs : ∀ k, k ∈ F' → k ∈ F) (hl : ∀ k, k ∈ F → k < w.heap.size) : u8.R w F v xs := by
  obtain ⟨A, c, G, Fs, cs, rfl, hc, rfl, hG, he, hr⟩ := h
  obtain rfl := els_int_inv (w := w) (Els.flat (flat_int _) he)
  exact ⟨A, c, F, [], _, rfl, hc, by simp, hl, (els_int (w := w) xs).imp (fun _ _ _ _ h => Kd.own _ h), fun j u hu => by
    obtain ⟨ad, e1, e2, e3⟩ := hr j u hu
    exact ⟨ad, e1, hs _ (List.mem_append_left _ e2), e3⟩⟩
theorem Hold.cutT {w0 w : World} {F0 : List Nat} {Γ Δ : List Rs} {e : TypeId} {v : Value} {xs ys : List Int} (H : Hold w0 F0 w Γ) (i : Nat) (hi : Γ[i]? = some (rR u8 e v xs)) (l u : Nat) (hl : l ≤ u) (hu : u ≤ xs.length) (hy : (xs.take u).drop l = ys) (hΔ : Γ.set i (rT (slv v l u 1) ys) = Δ) : Hold w0 F0 w Δ := by
  obtain ⟨F, hP, n, s, K⟩ := H.pick i hi
  obtain ⟨F', hs, hR⟩ := Kd.R.sl (Kd.W.R (show Kd.W u8 e w F v xs from hP)) l u hl hu
  rw [hy] at hR
  exact K w (rT (slv v l u 1) ys) F Δ (R_widen hR hs (fun k hk => Kd.W.lt (show Kd.W u8 e w F v xs from hP) k hk)) (Turn.own n (fun k hk => hk) (Ch.refl _ _)) hΔ
theorem Hold.toT {w0 w : World} {F0 : List Nat} {Γ Δ : List Rs} {e : TypeId} {v : Value} {xs : List Int} (H : Hold w0 F0 w Γ) (i : Nat) (hi : Γ[i]? = some (rR u8 e v xs)) (hΔ : Γ.set i (rT v xs) = Δ) : Hold w0 F0 w Δ := by
  obtain ⟨F, hP, n, s, K⟩ := H.pick i hi
  exact K w (rT v xs) F Δ (Kd.W.R (show Kd.W u8 e w F v xs from hP)) (Turn.own n (fun k hk => hk) (Ch.refl _ _)) hΔ
attribute [irreducible] drawDisk
attribute [local irreducible] dwN dwB dwF dwK dwBk dwDt dwDk
theorem DrawDiskWrite {w : World} {F : List Nat} {v : Value} {xs : List Int} (hx : u8.R w F v xs) (lx0 : xs.length ≤ 1000000000) (ok : ok8 xs) :
    Ret Try.prog 86 #[v] w (fun r w' => ∃ a c z, r = .tuple #[.agg #[a, c], .int .i64 (dwBk xs), z] ∧ Hold w [] w' [rR u8 5 a (dwDk xs).1, rR kW 112 c (dwDk xs).2, rT z (dwDt xs)]) := by
  refine enter Try.func86 rfl Try.ntmps86 (by rfl) (by rfl) ?_
  have H0 : Hold w [] w [] := Hold.start w
  have okS := srcOf_ok ok
  obtain ⟨lx, hlp, lxx⟩ := drawDisk_sw okS
  have okD := drawDisk_ok okS
  have eN : dwN xs = blks (drawDisk (srcOf xs)).1.1 := by with_unfolding_all rfl
  have eB : dwB xs = nx (drawDisk (srcOf xs)).2 (dwN xs) := by with_unfolding_all rfl
  have eF : dwF xs = fill (dwB xs).2 := by with_unfolding_all rfl
  have eK : dwK xs = (nx (dwF xs).2 16).1 := by with_unfolding_all rfl
  have eD : dwDk xs = (drawDisk (srcOf xs)).1 := by with_unfolding_all rfl
  have okB : SrcOk (dwB xs).2 := by rw [eB]; exact nx_ok okD
  have okF : SrcOk (dwF xs).2 := by rw [eF]; exact fill_ok okB
  have hNb : dwN xs ≤ 1000000000 := by rw [eN]; unfold blks; omega
  have lF : (dwF xs).1.length = 64 := by rw [eF]; exact fill_len _
  refine sq (rg (ef (xal ti49) ?_))
  rintro _ w1 ⟨g2, e1, rfl, -, b1, c1⟩
  have H1 : Hold w [] w1 [rB g2 49 ([.slice none 0 0, .slice none 0 0])] := Hold.newB H0 e1 b1 c1
  clear H0
  clear e1 b1 c1
  refine r (sa rfl) (r (sa rfl) (re (sq (rg (r (mv rfl) (cl go109 (l1Source (hx.t (Hold.ch H1)) lx0 ok) (ac rfl an) ?_))))))
  rintro r ws ⟨g, u, rfl, Hs1⟩
  have H2 : Hold w [] ws [rB g2 49 ([.slice none 0 0, .slice none 0 0]), rB g 172 ([u, .int .i64 ((srcOf xs).pt : Int), .int .i64 ((srcOf xs).mix), .int .i64 ((srcOf xs).size)]), rR u8 5 u ((srcOf xs).code)] := Hold.news H1 Hs1
  clear H1
  clear Hs1
  refine r (sa rfl) (re (sq (rg (r (mv rfl) ?_))))
  have H3 : Hold w [] ws [rB g 172 ([u, .int .i64 ((srcOf xs).pt : Int), .int .i64 ((srcOf xs).mix), .int .i64 ((srcOf xs).size)]), rR u8 5 u ((srcOf xs).code), rB g2 49 ([.slice none 0 0, .slice none 0 0])] := Hold.re H2 [1, 2, 0] (by kernel_rfl) (by rfl)
  clear H2
  obtain ⟨F3, hF3, n3, s3, K3⟩ := Hold.front (Γ := [rB g 172 ([u, .int .i64 ((srcOf xs).pt : Int), .int .i64 ((srcOf xs).mix), .int .i64 ((srcOf xs).size)]), rR u8 5 u ((srcOf xs).code)]) (Δ := [rB g2 49 ([.slice none 0 0, .slice none 0 0])]) H3
  refine cl go139 (l1DrawDisk hF3 n3 okS) (ac rfl an) ?_
  rintro r wd ⟨a, c, rfl, Hd⟩
  have H4 : Hold w [] wd [rB g 172 ([u, .int .i64 ((drawDisk (srcOf xs)).2.pt : Int), .int .i64 ((drawDisk (srcOf xs)).2.mix), .int .i64 ((drawDisk (srcOf xs)).2.size)]), rR u8 5 u ((drawDisk (srcOf xs)).2.code), rR u8 5 a ((drawDisk (srcOf xs)).1.1), rR kW 112 c ((drawDisk (srcOf xs)).1.2), rB g2 49 ([.slice none 0 0, .slice none 0 0])] := Hold.call K3 Hd
  clear H3
  clear K3 hF3 n3 s3
  clear Hd
  refine ef (xal ti49) ?_
  rintro _ w4 ⟨g6, e4, rfl, -, b4, c4⟩
  have H5 : Hold w [] w4 [rB g 172 ([u, .int .i64 ((drawDisk (srcOf xs)).2.pt : Int), .int .i64 ((drawDisk (srcOf xs)).2.mix), .int .i64 ((drawDisk (srcOf xs)).2.size)]), rR u8 5 u ((drawDisk (srcOf xs)).2.code), rR u8 5 a ((drawDisk (srcOf xs)).1.1), rR kW 112 c ((drawDisk (srcOf xs)).1.2), rB g2 49 ([.slice none 0 0, .slice none 0 0]), rB g6 49 ([.slice none 0 0, .slice none 0 0])] := Hold.newB H4 e4 b4 c4
  clear H4
  clear e4 b4 c4
  have b5 : B w4 g6 49 ([.slice none 0 0, .slice none 0 0]) := Hold.blk H5 5 rfl
  obtain ⟨_, R7⟩ : ∃ F, Kd.R kW w4 F c ((drawDisk (srcOf xs)).1.2) := Hold.row H5 3 rfl
  obtain ⟨_, R8⟩ : ∃ F, Kd.R u8 w4 F a ((drawDisk (srcOf xs)).1.1) := Hold.row H5 2 rfl
  refine ef0 (xst (vs := [a, c]) ti49 rfl rfl rfl b5 rfl (Nat.le_of_ble_eq_true rfl) (oc (R8).oneCell (oc (R7).oneCell on))) ?_
  rintro w6 ⟨-, b6, c6⟩
  have H6 : Hold w [] w6 [rB g 172 ([u, .int .i64 ((drawDisk (srcOf xs)).2.pt : Int), .int .i64 ((drawDisk (srcOf xs)).2.mix), .int .i64 ((drawDisk (srcOf xs)).2.size)]), rR u8 5 u ((drawDisk (srcOf xs)).2.code), rR u8 5 a ((drawDisk (srcOf xs)).1.1), rR kW 112 c ((drawDisk (srcOf xs)).1.2), rB g2 49 ([.slice none 0 0, .slice none 0 0]), rB g6 49 ([a, c])] := Hold.setB H5 5 rfl b6 c6 rfl
  clear H5
  clear b6 c6
  have b9 : B w6 g6 49 ([a, c]) := Hold.blk H6 5 rfl
  obtain ⟨_, R11⟩ : ∃ F, Kd.R u8 w6 F a ((drawDisk (srcOf xs)).1.1) := Hold.row H6 2 rfl
  refine re (sq (rg (r (mv rfl) (r (lab [a, c] Try.underlying49 rfl ti49 rfl b9 rfl rfl) (cl go115 (l1Blocks R11 lx) (ac rfl an) ?_)))))
  rintro r wb ⟨er, cb⟩
  rw [← eN] at er
  subst er
  have H7 : Hold w [] wb [rB g 172 ([u, .int .i64 ((drawDisk (srcOf xs)).2.pt : Int), .int .i64 ((drawDisk (srcOf xs)).2.mix), .int .i64 ((drawDisk (srcOf xs)).2.size)]), rR u8 5 u ((drawDisk (srcOf xs)).2.code), rR u8 5 a ((drawDisk (srcOf xs)).1.1), rR kW 112 c ((drawDisk (srcOf xs)).1.2), rB g2 49 ([.slice none 0 0, .slice none 0 0]), rB g6 49 ([a, c])] := Hold.t H6 cb
  clear H6
  clear cb
  obtain ⟨F12, hF12, n12, s12, K12⟩ := Hold.front (Γ := [rB g 172 ([u, .int .i64 ((drawDisk (srcOf xs)).2.pt : Int), .int .i64 ((drawDisk (srcOf xs)).2.mix), .int .i64 ((drawDisk (srcOf xs)).2.size)]), rR u8 5 u ((drawDisk (srcOf xs)).2.code)]) (Δ := [rR u8 5 a ((drawDisk (srcOf xs)).1.1), rR kW 112 c ((drawDisk (srcOf xs)).1.2), rB g2 49 ([.slice none 0 0, .slice none 0 0]), rB g6 49 ([a, c])]) H7
  refine cl go111 (l1Next (s := (drawDisk (srcOf xs)).2) (m := dwN xs) hF12 n12 okD (by omega)) (ac rfl (ac rfl an)) ?_
  rintro r wn ⟨er, Hn⟩
  rw [← eB] at er Hn
  subst er
  have H8 : Hold w [] wn [rB g 172 ([u, .int .i64 ((dwB xs).2.pt : Int), .int .i64 ((dwB xs).2.mix), .int .i64 ((dwB xs).2.size)]), rR u8 5 u ((dwB xs).2.code), rR u8 5 a ((drawDisk (srcOf xs)).1.1), rR kW 112 c ((drawDisk (srcOf xs)).1.2), rB g2 49 ([.slice none 0 0, .slice none 0 0]), rB g6 49 ([a, c])] := Hold.call K12 Hn
  clear H7
  clear K12 hF12 n12 s12
  clear Hn
  refine r (sa rfl) (re (sq ?_))
  refine gen (fun ρ => ρ 2 = .pointer (some ⟨g2, 0, none⟩) ∧ ρ 3 = .int .i64 0 ∧ ρ 4 = .slice none 0 0 ∧ ρ 5 = .pointer (some ⟨g, 0, none⟩) ∧ ρ 6 = .pointer (some ⟨g6, 0, none⟩) ∧ ρ 7 = .int .i64 ((dwB xs).1) ∧ True) ⟨rfl, rfl, rfl, rfl, rfl, rfl, trivial⟩ ?_
  rintro ρ ⟨z2, z3, z4, z5, z6, z7, -⟩
  obtain ⟨F13, hF13, n13, s13, K13⟩ := Hold.front (Γ := [rB g 172 ([u, .int .i64 ((dwB xs).2.pt : Int), .int .i64 ((dwB xs).2.mix), .int .i64 ((dwB xs).2.size)]), rR u8 5 u ((dwB xs).2.code)]) (Δ := [rR u8 5 a ((drawDisk (srcOf xs)).1.1), rR kW 112 c ((drawDisk (srcOf xs)).1.2), rB g2 49 ([.slice none 0 0, .slice none 0 0]), rB g6 49 ([a, c])]) H8
  refine rg (r (mv z5) (cl go140 (l1Fill hF13 n13 okB) (ac rfl an) ?_))
  rintro rf wf Hf
  rw [← eF] at Hf
  have H9 : Hold w [] wf [rB g 172 ([u, .int .i64 ((dwF xs).2.pt : Int), .int .i64 ((dwF xs).2.mix), .int .i64 ((dwF xs).2.size)]), rR u8 5 u ((dwF xs).2.code), rR u8 5 rf ((dwF xs).1), rR u8 5 a ((drawDisk (srcOf xs)).1.1), rR kW 112 c ((drawDisk (srcOf xs)).1.2), rB g2 49 ([.slice none 0 0, .slice none 0 0]), rB g6 49 ([a, c])] := Hold.call K13 Hf
  clear H8
  clear K13 hF13 n13 s13
  clear Hf
  obtain ⟨F14, hF14, n14, s14, K14⟩ := Hold.front (Γ := [rB g 172 ([u, .int .i64 ((dwF xs).2.pt : Int), .int .i64 ((dwF xs).2.mix), .int .i64 ((dwF xs).2.size)]), rR u8 5 u ((dwF xs).2.code)]) (Δ := [rR u8 5 rf ((dwF xs).1), rR u8 5 a ((drawDisk (srcOf xs)).1.1), rR kW 112 c ((drawDisk (srcOf xs)).1.2), rB g2 49 ([.slice none 0 0, .slice none 0 0]), rB g6 49 ([a, c])]) H9
  refine r (sa rfl) (re (sq (rg (r (mv z5) (cl go111 (l1Next (s := (dwF xs).2) (m := 16) hF14 n14 okF (by omega)) (ac rfl (ac rfl an)) ?_)))))
  rintro r wk ⟨er, Hk⟩
  rw [← eK] at er
  subst er
  have H10 : Hold w [] wk [rB g 172 ([u, .int .i64 ((nx (dwF xs).2 16).2.pt : Int), .int .i64 ((nx (dwF xs).2 16).2.mix), .int .i64 ((nx (dwF xs).2 16).2.size)]), rR u8 5 u ((nx (dwF xs).2 16).2.code), rR u8 5 rf ((dwF xs).1), rR u8 5 a ((drawDisk (srcOf xs)).1.1), rR kW 112 c ((drawDisk (srcOf xs)).1.2), rB g2 49 ([.slice none 0 0, .slice none 0 0]), rB g6 49 ([a, c])] := Hold.call K14 Hk
  clear H9
  clear K14 hF14 n14 s14
  clear Hk
  refine r (sa rfl) (re (sq (sq (rg (r (mv rfl) (r (bi rfl rfl rfl) (re ?_)))))))
  refine cp rfl (fun h0 => ?_) (fun h0 => ?_)
  · obtain ⟨_, R15⟩ : ∃ F, Kd.R u8 wk F rf ((dwF xs).1) := Hold.row H10 2 rfl
    refine rg (r (mv rfl) (r (slrl (1) Try.underlying40 ti5 R15 rfl rfl (by omega)) (r (sa rfl) (re (sq (sq ?_))))))
    refine gen (fun ρ => ρ 2 = .pointer (some ⟨g2, 0, none⟩) ∧ ρ 3 = .int .i64 0 ∧ ρ 4 = .slice none 0 0 ∧ ρ 6 = .pointer (some ⟨g6, 0, none⟩) ∧ ρ 7 = .int .i64 ((dwB xs).1) ∧ ρ 8 = slv rf 1 ((dwF xs).1).length 1 ∧ ρ 9 = .int .i64 (dwK xs) ∧ True) ⟨z2, z3, z4, z6, z7, rfl, rfl, trivial⟩ ?_
    rintro ρ ⟨z2, z3, z4, z6, z7, z8, z9, -⟩
    refine rg (r (mv z9) (r (bi rfl rfl rfl) (re ?_)))
    refine cf ((rfl : _ = Value.bool (decide ((dwK xs) = 1))).trans (congrArg Value.bool (show (decide ((dwK xs) = 1)) = false from (decide_eq_false (by omega))))) ?_
    refine sk (sq (sq (rg (r (mv z9) (r (bi rfl rfl rfl) (re ?_))))))
    refine cf ((rfl : _ = Value.bool (decide ((dwK xs) = 2))).trans (congrArg Value.bool (show (decide ((dwK xs) = 2)) = false from (decide_eq_false (by omega))))) ?_
    have b16 : B wk g6 49 ([a, c]) := Hold.blk H10 6 rfl
    have b17 : B wk g2 49 ([.slice none 0 0, .slice none 0 0]) := Hold.blk H10 5 rfl
    obtain ⟨_, R19⟩ : ∃ F, Kd.R kW wk F c ((drawDisk (srcOf xs)).1.2) := Hold.row H10 4 rfl
    obtain ⟨_, R20⟩ : ∃ F, Kd.R u8 wk F a ((drawDisk (srcOf xs)).1.1) := Hold.row H10 3 rfl
    refine sk (sq (rg (r (lab [a, c] Try.underlying49 rfl ti49 z6 b16 rfl rfl) (r (mv z7) (r (mv z8) (ef0 (xst (vs := [a, c]) ti49 z2 rfl rfl b17 rfl (Nat.le_of_ble_eq_true rfl) (oc (R20).oneCell (oc (R19).oneCell on))) ?_))))))
    rintro w18 ⟨-, b18, c18⟩
    have H11 : Hold w [] w18 [rB g 172 ([u, .int .i64 ((nx (dwF xs).2 16).2.pt : Int), .int .i64 ((nx (dwF xs).2 16).2.mix), .int .i64 ((nx (dwF xs).2 16).2.size)]), rR u8 5 u ((nx (dwF xs).2 16).2.code), rR u8 5 rf ((dwF xs).1), rR u8 5 a ((drawDisk (srcOf xs)).1.1), rR kW 112 c ((drawDisk (srcOf xs)).1.2), rB g2 49 ([a, c]), rB g6 49 ([a, c])] := Hold.setB H10 5 rfl b18 c18 rfl
    clear H10
    clear b18 c18
    refine r (sa rfl) (r (sa rfl) (re (rt ?_)))
    have q1 : dwBk xs = (dwB xs).1 := by
      unfold dwBk
      rw [if_neg (by omega), if_neg (by omega)]
    have q2 : dwDt xs = (dwF xs).1.drop 1 := by unfold dwDt; rw [if_pos h0]
    have H12 : Hold w [] w18 [rB g 172 ([u, .int .i64 ((nx (dwF xs).2 16).2.pt : Int), .int .i64 ((nx (dwF xs).2 16).2.mix), .int .i64 ((nx (dwF xs).2 16).2.size)]), rR u8 5 u ((nx (dwF xs).2 16).2.code), rT (slv rf 1 (dwF xs).1.length 1) (dwDt xs), rR u8 5 a ((drawDisk (srcOf xs)).1.1), rR kW 112 c ((drawDisk (srcOf xs)).1.2), rB g2 49 ([a, c]), rB g6 49 ([a, c])] := Hold.cutT H11 2 rfl 1 (dwF xs).1.length (by omega) (Nat.le_refl _) (by rw [q2, List.take_length]) rfl
    clear H11
    rw [q1, eD]
    have b21 : B w18 g2 49 ([a, c]) := Hold.blk H12 5 rfl
    have H13 : Hold w [] w18 [rR u8 5 a ((drawDisk (srcOf xs)).1.1), rR kW 112 c ((drawDisk (srcOf xs)).1.2), rT (slv rf 1 (dwF xs).1.length 1) (dwDt xs)] := (show Hold w [] w18 ([rR u8 5 a ((drawDisk (srcOf xs)).1.1), rR kW 112 c ((drawDisk (srcOf xs)).1.2), rT (slv rf 1 (dwF xs).1.length 1) (dwDt xs)] ++ [rB g 172 ([u, .int .i64 ((nx (dwF xs).2 16).2.pt : Int), .int .i64 ((nx (dwF xs).2 16).2.mix), .int .i64 ((nx (dwF xs).2 16).2.size)]), rR u8 5 u ((nx (dwF xs).2 16).2.code), rB g2 49 ([a, c]), rB g6 49 ([a, c])]) from Hold.re H12 [3, 4, 2, 0, 1, 5, 6] (by kernel_rfl) (by rfl)).drop
    clear H12
    exact finctt (v' := .int .i64 ((dwB xs).1)) (v2 := slv rf 1 ((dwF xs).1).length 1) (cs := [a, c]) Try.results86 Try.underlying49 rfl ti49 z2 b21 rfl rfl rfl ⟨_, _, _, rfl, H13⟩
  · refine sk (sq (sq (rg (r (mv rfl) (r (bi rfl rfl rfl) (re ?_))))))
    refine cp rfl (fun h1 => ?_) (fun h1 => ?_)
    · refine gen (fun ρ => ρ 2 = .pointer (some ⟨g2, 0, none⟩) ∧ ρ 3 = .int .i64 0 ∧ ρ 4 = .slice none 0 0 ∧ ρ 6 = .pointer (some ⟨g6, 0, none⟩) ∧ ρ 7 = .int .i64 ((dwB xs).1) ∧ ρ 8 = rf ∧ ρ 9 = .int .i64 (dwK xs) ∧ True) ⟨z2, z3, z4, z6, z7, rfl, rfl, trivial⟩ ?_
      rintro ρ ⟨z2, z3, z4, z6, z7, z8, z9, -⟩
      have b15 : B wk g6 49 ([a, c]) := Hold.blk H10 6 rfl
      obtain ⟨_, R17⟩ : ∃ F, Kd.R u8 wk F a ((drawDisk (srcOf xs)).1.1) := Hold.row H10 3 rfl
      refine rg (r (lab [a, c] Try.underlying49 rfl ti49 z6 b15 rfl rfl) (cl go115 (l1Blocks R17 lx) (ac rfl an) ?_))
      rintro r wb ⟨er, cb⟩
      rw [← eN] at er
      subst er
      have H11 : Hold w [] wb [rB g 172 ([u, .int .i64 ((nx (dwF xs).2 16).2.pt : Int), .int .i64 ((nx (dwF xs).2 16).2.mix), .int .i64 ((nx (dwF xs).2 16).2.size)]), rR u8 5 u ((nx (dwF xs).2 16).2.code), rR u8 5 rf ((dwF xs).1), rR u8 5 a ((drawDisk (srcOf xs)).1.1), rR kW 112 c ((drawDisk (srcOf xs)).1.2), rB g2 49 ([.slice none 0 0, .slice none 0 0]), rB g6 49 ([a, c])] := Hold.t H10 cb
      clear H10
      clear cb
      refine r (sa rfl) (re (sq (sq (rg (r (mv z9) (r (bi rfl rfl rfl) (re ?_)))))))
      refine cf ((rfl : _ = Value.bool (decide ((dwK xs) = 2))).trans (congrArg Value.bool (show (decide ((dwK xs) = 2)) = false from (decide_eq_false (by omega))))) ?_
      have b18 : B wb g6 49 ([a, c]) := Hold.blk H11 6 rfl
      have b19 : B wb g2 49 ([.slice none 0 0, .slice none 0 0]) := Hold.blk H11 5 rfl
      obtain ⟨_, R21⟩ : ∃ F, Kd.R kW wb F c ((drawDisk (srcOf xs)).1.2) := Hold.row H11 4 rfl
      obtain ⟨_, R22⟩ : ∃ F, Kd.R u8 wb F a ((drawDisk (srcOf xs)).1.1) := Hold.row H11 3 rfl
      refine sk (sq (rg (r (lab [a, c] Try.underlying49 rfl ti49 z6 b18 rfl rfl) (r (mv rfl) (r (mv z8) (ef0 (xst (vs := [a, c]) ti49 z2 rfl rfl b19 rfl (Nat.le_of_ble_eq_true rfl) (oc (R22).oneCell (oc (R21).oneCell on))) ?_))))))
      rintro w20 ⟨-, b20, c20⟩
      have H12 : Hold w [] w20 [rB g 172 ([u, .int .i64 ((nx (dwF xs).2 16).2.pt : Int), .int .i64 ((nx (dwF xs).2 16).2.mix), .int .i64 ((nx (dwF xs).2 16).2.size)]), rR u8 5 u ((nx (dwF xs).2 16).2.code), rR u8 5 rf ((dwF xs).1), rR u8 5 a ((drawDisk (srcOf xs)).1.1), rR kW 112 c ((drawDisk (srcOf xs)).1.2), rB g2 49 ([a, c]), rB g6 49 ([a, c])] := Hold.setB H11 5 rfl b20 c20 rfl
      clear H11
      clear b20 c20
      refine r (sa rfl) (r (sa rfl) (re (rt ?_)))
      have q1 : dwBk xs = dwN xs := by
        unfold dwBk
        rw [if_pos h1]
      have q2 : dwDt xs = (dwF xs).1 := by unfold dwDt; rw [if_neg h0]
      have H13 : Hold w [] w20 [rB g 172 ([u, .int .i64 ((nx (dwF xs).2 16).2.pt : Int), .int .i64 ((nx (dwF xs).2 16).2.mix), .int .i64 ((nx (dwF xs).2 16).2.size)]), rR u8 5 u ((nx (dwF xs).2 16).2.code), rT rf (dwDt xs), rR u8 5 a ((drawDisk (srcOf xs)).1.1), rR kW 112 c ((drawDisk (srcOf xs)).1.2), rB g2 49 ([a, c]), rB g6 49 ([a, c])] := (by rw [q2]; exact Hold.toT H12 2 rfl rfl)
      clear H12
      rw [q1, eD]
      have b23 : B w20 g2 49 ([a, c]) := Hold.blk H13 5 rfl
      have H14 : Hold w [] w20 [rR u8 5 a ((drawDisk (srcOf xs)).1.1), rR kW 112 c ((drawDisk (srcOf xs)).1.2), rT rf (dwDt xs)] := (show Hold w [] w20 ([rR u8 5 a ((drawDisk (srcOf xs)).1.1), rR kW 112 c ((drawDisk (srcOf xs)).1.2), rT rf (dwDt xs)] ++ [rB g 172 ([u, .int .i64 ((nx (dwF xs).2 16).2.pt : Int), .int .i64 ((nx (dwF xs).2 16).2.mix), .int .i64 ((nx (dwF xs).2 16).2.size)]), rR u8 5 u ((nx (dwF xs).2 16).2.code), rB g2 49 ([a, c]), rB g6 49 ([a, c])]) from Hold.re H13 [3, 4, 2, 0, 1, 5, 6] (by kernel_rfl) (by rfl)).drop
      clear H13
      exact finctt (v' := .int .i64 (dwN xs)) (v2 := rf) (cs := [a, c]) Try.results86 Try.underlying49 rfl ti49 z2 b23 rfl rfl rfl ⟨_, _, _, rfl, H14⟩
    · refine sk (sq (sq ?_))
      refine gen (fun ρ => ρ 2 = .pointer (some ⟨g2, 0, none⟩) ∧ ρ 3 = .int .i64 0 ∧ ρ 4 = .slice none 0 0 ∧ ρ 6 = .pointer (some ⟨g6, 0, none⟩) ∧ ρ 7 = .int .i64 ((dwB xs).1) ∧ ρ 8 = rf ∧ ρ 9 = .int .i64 (dwK xs) ∧ True) ⟨z2, z3, z4, z6, z7, rfl, rfl, trivial⟩ ?_
      rintro ρ ⟨z2, z3, z4, z6, z7, z8, z9, -⟩
      refine rg (r (mv z9) (r (bi rfl rfl rfl) (re ?_)))
      refine cp rfl (fun h2 => ?_) (fun h2 => ?_)
      · have b15 : B wk g6 49 ([a, c]) := Hold.blk H10 6 rfl
        have b16 : B wk g2 49 ([.slice none 0 0, .slice none 0 0]) := Hold.blk H10 5 rfl
        obtain ⟨_, R18⟩ : ∃ F, Kd.R kW wk F c ((drawDisk (srcOf xs)).1.2) := Hold.row H10 4 rfl
        obtain ⟨_, R19⟩ : ∃ F, Kd.R u8 wk F a ((drawDisk (srcOf xs)).1.1) := Hold.row H10 3 rfl
        refine rg (r (sa rfl) (re (sq (rg (r (lab [a, c] Try.underlying49 rfl ti49 z6 b15 rfl rfl) (r (mv rfl) (r (mv z8) (ef0 (xst (vs := [a, c]) ti49 z2 rfl rfl b16 rfl (Nat.le_of_ble_eq_true rfl) (oc (R19).oneCell (oc (R18).oneCell on))) ?_))))))))
        rintro w17 ⟨-, b17, c17⟩
        have H11 : Hold w [] w17 [rB g 172 ([u, .int .i64 ((nx (dwF xs).2 16).2.pt : Int), .int .i64 ((nx (dwF xs).2 16).2.mix), .int .i64 ((nx (dwF xs).2 16).2.size)]), rR u8 5 u ((nx (dwF xs).2 16).2.code), rR u8 5 rf ((dwF xs).1), rR u8 5 a ((drawDisk (srcOf xs)).1.1), rR kW 112 c ((drawDisk (srcOf xs)).1.2), rB g2 49 ([a, c]), rB g6 49 ([a, c])] := Hold.setB H10 5 rfl b17 c17 rfl
        clear H10
        clear b17 c17
        refine r (sa rfl) (r (sa rfl) (re (rt ?_)))
        have q1 : dwBk xs = -1 := by
          unfold dwBk
          rw [if_neg h1, if_pos h2]
        have q2 : dwDt xs = (dwF xs).1 := by unfold dwDt; rw [if_neg h0]
        have H12 : Hold w [] w17 [rB g 172 ([u, .int .i64 ((nx (dwF xs).2 16).2.pt : Int), .int .i64 ((nx (dwF xs).2 16).2.mix), .int .i64 ((nx (dwF xs).2 16).2.size)]), rR u8 5 u ((nx (dwF xs).2 16).2.code), rT rf (dwDt xs), rR u8 5 a ((drawDisk (srcOf xs)).1.1), rR kW 112 c ((drawDisk (srcOf xs)).1.2), rB g2 49 ([a, c]), rB g6 49 ([a, c])] := (by rw [q2]; exact Hold.toT H11 2 rfl rfl)
        clear H11
        rw [q1, eD]
        have b20 : B w17 g2 49 ([a, c]) := Hold.blk H12 5 rfl
        have H13 : Hold w [] w17 [rR u8 5 a ((drawDisk (srcOf xs)).1.1), rR kW 112 c ((drawDisk (srcOf xs)).1.2), rT rf (dwDt xs)] := (show Hold w [] w17 ([rR u8 5 a ((drawDisk (srcOf xs)).1.1), rR kW 112 c ((drawDisk (srcOf xs)).1.2), rT rf (dwDt xs)] ++ [rB g 172 ([u, .int .i64 ((nx (dwF xs).2 16).2.pt : Int), .int .i64 ((nx (dwF xs).2 16).2.mix), .int .i64 ((nx (dwF xs).2 16).2.size)]), rR u8 5 u ((nx (dwF xs).2 16).2.code), rB g2 49 ([a, c]), rB g6 49 ([a, c])]) from Hold.re H12 [3, 4, 2, 0, 1, 5, 6] (by kernel_rfl) (by rfl)).drop
        clear H12
        exact finctt (v' := .int .i64 (-1)) (v2 := rf) (cs := [a, c]) Try.results86 Try.underlying49 rfl ti49 z2 b20 rfl rfl rfl ⟨_, _, _, rfl, H13⟩
      · have b15 : B wk g6 49 ([a, c]) := Hold.blk H10 6 rfl
        have b16 : B wk g2 49 ([.slice none 0 0, .slice none 0 0]) := Hold.blk H10 5 rfl
        obtain ⟨_, R18⟩ : ∃ F, Kd.R kW wk F c ((drawDisk (srcOf xs)).1.2) := Hold.row H10 4 rfl
        obtain ⟨_, R19⟩ : ∃ F, Kd.R u8 wk F a ((drawDisk (srcOf xs)).1.1) := Hold.row H10 3 rfl
        refine sk (sq (rg (r (lab [a, c] Try.underlying49 rfl ti49 z6 b15 rfl rfl) (r (mv z7) (r (mv z8) (ef0 (xst (vs := [a, c]) ti49 z2 rfl rfl b16 rfl (Nat.le_of_ble_eq_true rfl) (oc (R19).oneCell (oc (R18).oneCell on))) ?_))))))
        rintro w17 ⟨-, b17, c17⟩
        have H11 : Hold w [] w17 [rB g 172 ([u, .int .i64 ((nx (dwF xs).2 16).2.pt : Int), .int .i64 ((nx (dwF xs).2 16).2.mix), .int .i64 ((nx (dwF xs).2 16).2.size)]), rR u8 5 u ((nx (dwF xs).2 16).2.code), rR u8 5 rf ((dwF xs).1), rR u8 5 a ((drawDisk (srcOf xs)).1.1), rR kW 112 c ((drawDisk (srcOf xs)).1.2), rB g2 49 ([a, c]), rB g6 49 ([a, c])] := Hold.setB H10 5 rfl b17 c17 rfl
        clear H10
        clear b17 c17
        refine r (sa rfl) (r (sa rfl) (re (rt ?_)))
        have q1 : dwBk xs = (dwB xs).1 := by
          unfold dwBk
          rw [if_neg h1, if_neg h2]
        have q2 : dwDt xs = (dwF xs).1 := by unfold dwDt; rw [if_neg h0]
        have H12 : Hold w [] w17 [rB g 172 ([u, .int .i64 ((nx (dwF xs).2 16).2.pt : Int), .int .i64 ((nx (dwF xs).2 16).2.mix), .int .i64 ((nx (dwF xs).2 16).2.size)]), rR u8 5 u ((nx (dwF xs).2 16).2.code), rT rf (dwDt xs), rR u8 5 a ((drawDisk (srcOf xs)).1.1), rR kW 112 c ((drawDisk (srcOf xs)).1.2), rB g2 49 ([a, c]), rB g6 49 ([a, c])] := (by rw [q2]; exact Hold.toT H11 2 rfl rfl)
        clear H11
        rw [q1, eD]
        have b20 : B w17 g2 49 ([a, c]) := Hold.blk H12 5 rfl
        have H13 : Hold w [] w17 [rR u8 5 a ((drawDisk (srcOf xs)).1.1), rR kW 112 c ((drawDisk (srcOf xs)).1.2), rT rf (dwDt xs)] := (show Hold w [] w17 ([rR u8 5 a ((drawDisk (srcOf xs)).1.1), rR kW 112 c ((drawDisk (srcOf xs)).1.2), rT rf (dwDt xs)] ++ [rB g 172 ([u, .int .i64 ((nx (dwF xs).2 16).2.pt : Int), .int .i64 ((nx (dwF xs).2 16).2.mix), .int .i64 ((nx (dwF xs).2 16).2.size)]), rR u8 5 u ((nx (dwF xs).2 16).2.code), rB g2 49 ([a, c]), rB g6 49 ([a, c])]) from Hold.re H12 [3, 4, 2, 0, 1, 5, 6] (by kernel_rfl) (by rfl)).drop
        clear H12
        exact finctt (v' := .int .i64 ((dwB xs).1)) (v2 := rf) (cs := [a, c]) Try.results86 Try.underlying49 rfl ti49 z2 b20 rfl rfl rfl ⟨_, _, _, rfl, H13⟩
end Go.Proofs.Ytgpcanjmgdmdhaa
