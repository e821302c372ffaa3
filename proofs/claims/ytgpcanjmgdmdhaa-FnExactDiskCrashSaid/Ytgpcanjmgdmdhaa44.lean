/-
  THE LAW'S WALK: DiskCrash. No condition.
-/
import Derived.Test.Ytgpcanjmgdmdhaa43
namespace Go.Proofs.Ytgpcanjmgdmdhaa
open Go Go.Eng
set_option maxRecDepth 100000
set_option maxHeartbeats 4000000
set_option linter.unusedVariables false
set_option linter.unusedSimpArgs false
attribute [local irreducible] dcD
theorem w_FnExactDiskCrash {w : World} {F G F2 : List Nat} {v u cv : Value} {xs cs : List Int} {ps : List Wr} (hx : u8.R w F v xs) (hp : kW.R w G u ps) (l0 : xs.length ≤ 9223372036854775807) (l1 : ps.length ≤ 9223372036854775807) (l2 : ∀ x, x ∈ ps → x.2.length ≤ 9223372036854775807) (hc : i64.R w F2 cv cs) (l3 : cs.length ≤ 9223372036854775807) :
    Ret Try.prog 22 #[.agg #[v, u], cv] w (fun r w' => r = .bool true ∧ Ch [] w w') := by
  refine enter Try.func22 rfl Try.ntmps22 (by rfl) (by rfl) ?_
  have H0 : Hold w [] w [] := Hold.start w
  refine sq (rg (ef (xbx (t := 74) rfl rfl) ?_))
  rintro _ w1 ⟨g2, e1, rfl, -, b1, c1⟩
  have H1 : Hold w [] w1 [rB g2 74 ([v, u])] := Hold.newB H0 e1 b1 c1
  clear H0
  clear e1 b1 c1
  refine r (sa rfl) (re (sq (sq (rg (r (mv rfl) (r (ln Try.underlying22 rfl ((hc.t (Hold.ch H1)))) (r (bi rfl rfl rfl) (re ?_))))))))
  refine cp rfl (fun hz1 => ?_) (fun hz1 => ?_)
  · refine sq (rg (r (sa rfl) (re (rt ?_))))
    exact fin1 (v := .bool true) Try.results22 rfl ⟨rfl, Hold.ch H1⟩
  · have lz : cs.length ≤ 1000000000 := by omega
    have b2 : B w1 g2 74 ([v, u]) := Hold.blk H1 0 rfl
    refine sk (sq (rg (r (sa rfl) (re (sq (rg (r (lab [v, u] Try.underlying74 rfl ti74 rfl b2 rfl rfl) (r (mv rfl) (cl go56 (szDisk (hx.t (Hold.ch H1)) (hp.t (Hold.ch H1)) l0 l1 l2 (by omega)) (ac rfl (ac rfl an)) ?_)))))))))
    rintro r wz ⟨rfl, cz⟩
    have H2 : Hold w [] wz [rB g2 74 ([v, u])] := Hold.t H1 cz
    clear H1
    clear cz
    refine r (sa rfl) (re (sq (sq ?_)))
    refine gen (fun ρ => ρ 1 = cv ∧ ρ 2 = .pointer (some ⟨g2, 0, none⟩) ∧ ρ 4 = .bool false ∧ ρ 5 = .int .i64 (lft 1048576 (xs.length + szW ps)) ∧ True) ⟨rfl, rfl, rfl, rfl, trivial⟩ ?_
    rintro ρ ⟨z1, z2, z4, z5, -⟩
    refine rg (r (mv z5) (r (bi rfl rfl rfl) (re ?_)))
    refine cp rfl (fun h => ?_) (fun h => ?_)
    · refine sq (rg (r (sa rfl) (re (rt ?_))))
      exact fin1 (v := .bool true) Try.results22 rfl ⟨rfl, Hold.ch H2⟩
    · have hsz : xs.length + szW ps ≤ 1048576 := by unfold lft at h; split at h <;> omega
      have hlen := szW_len (xs := ps)
      have lx : xs.length ≤ 1000000000 := by omega
      have hlp : ps.length ≤ 2000000 := by omega
      have hlp2 : ps.length ≤ 1000000000 := by omega
      have hsz2 : szW ps ≤ 1000000000 := by omega
      have lxx : ∀ x, x ∈ ps → x.2.length ≤ 1000000000 := fun x hx => by have := szW_mem x hx; omega
      obtain ⟨m1, m2, m3, m4⟩ := dcD_sm (xs := xs) (ps := ps) (cs := cs)
      have b4 : B wz g2 74 ([v, u]) := Hold.blk H2 0 rfl
      refine sk (sq (rg (r (lab [v, u] Try.underlying74 rfl ti74 z2 b4 rfl rfl) (cl go58 (toDisk_H (hx.t (Hold.ch H2)) (hp.t (Hold.ch H2)) (by first | assumption | omega | (simp; omega)) (by first | assumption | omega | (simp; omega)) (by assumption)) (ac rfl an) ?_))))
      rintro r wt5 ⟨a_5, b_5, rfl, Ht5⟩
      have H3 : Hold w [] wt5 [rB g2 74 ([v, u]), rR u8 5 a_5 xs, rR kW 112 b_5 ps] := Hold.news H2 Ht5
      clear H2
      clear Ht5
      refine r (mv z1) (cl go24 (toInt64S_H (hc.t (Hold.ch H3)) (by first | assumption | omega | (simp; omega))) (ac rfl an) ?_)
      rintro r7 wt7 Ht7
      have H4 : Hold w [] wt7 [rB g2 74 ([v, u]), rR u8 5 a_5 xs, rR kW 112 b_5 ps, rR i64 2 r7 cs] := Hold.news H3 Ht7
      clear H3
      clear Ht7
      obtain ⟨_, R11⟩ : ∃ F, Kd.R u8 wt7 F a_5 xs := Hold.row H4 1 rfl
      obtain ⟨_, R12⟩ : ∃ F, Kd.R kW wt7 F b_5 ps := Hold.row H4 2 rfl
      obtain ⟨_, R13⟩ : ∃ F, Kd.R i64 wt7 F r7 cs := Hold.row H4 3 rfl
      refine cl go89 (spec_DiskCrash R11 R12 lx hlp lxx R13 lz) (ac rfl (ac rfl an)) ?_
      rintro r wD9 ⟨a_9, b_9, rfl, HD9⟩
      have H5 : Hold w [] wD9 [rB g2 74 ([v, u]), rR u8 5 a_5 xs, rR kW 112 b_5 ps, rR i64 2 r7 cs, rR u8 5 a_9 ((dcD xs ps cs).1), rR kW 112 b_9 ((dcD xs ps cs).2)] := Hold.news H4 HD9
      clear H4
      clear HD9
      refine ef (xal ti49) ?_
      rintro _ w14 ⟨g6, e14, rfl, -, b14, c14⟩
      have H6 : Hold w [] w14 [rB g2 74 ([v, u]), rR u8 5 a_5 xs, rR kW 112 b_5 ps, rR i64 2 r7 cs, rR u8 5 a_9 ((dcD xs ps cs).1), rR kW 112 b_9 ((dcD xs ps cs).2), rB g6 49 ([.slice none 0 0, .slice none 0 0])] := Hold.newB H5 e14 b14 c14
      clear H5
      clear e14 b14 c14
      have b15 : B w14 g6 49 ([.slice none 0 0, .slice none 0 0]) := Hold.blk H6 6 rfl
      obtain ⟨_, R17⟩ : ∃ F, Kd.R kW w14 F b_9 ((dcD xs ps cs).2) := Hold.row H6 5 rfl
      obtain ⟨_, R18⟩ : ∃ F, Kd.R u8 w14 F a_9 ((dcD xs ps cs).1) := Hold.row H6 4 rfl
      refine ef0 (xst (vs := [a_9, b_9]) ti49 rfl rfl rfl b15 rfl (Nat.le_of_ble_eq_true rfl) (oc (R18).oneCell (oc (R17).oneCell on))) ?_
      rintro w16 ⟨-, b16, c16⟩
      have H7 : Hold w [] w16 [rB g2 74 ([v, u]), rR u8 5 a_5 xs, rR kW 112 b_5 ps, rR i64 2 r7 cs, rR u8 5 a_9 ((dcD xs ps cs).1), rR kW 112 b_9 ((dcD xs ps cs).2), rB g6 49 ([a_9, b_9])] := Hold.setB H6 6 rfl b16 c16 rfl
      clear H6
      clear b16 c16
      have b19 : B w16 g2 74 ([v, u]) := Hold.blk H7 0 rfl
      refine re (sq (rg (r (lab [v, u] Try.underlying74 rfl ti74 z2 b19 rfl rfl) (cl go58 (toDisk_H (hx.t (Hold.ch H7)) (hp.t (Hold.ch H7)) (by first | assumption | omega | (simp; omega)) (by first | assumption | omega | (simp; omega)) (by assumption)) (ac rfl an) ?_))))
      rintro r wt20 ⟨a_20, b_20, rfl, Ht20⟩
      have H8 : Hold w [] wt20 [rB g2 74 ([v, u]), rR u8 5 a_5 xs, rR kW 112 b_5 ps, rR i64 2 r7 cs, rR u8 5 a_9 ((dcD xs ps cs).1), rR kW 112 b_9 ((dcD xs ps cs).2), rB g6 49 ([a_9, b_9]), rR u8 5 a_20 xs, rR kW 112 b_20 ps] := Hold.news H7 Ht20
      clear H7
      clear Ht20
      refine ef (xal ti49) ?_
      rintro _ w22 ⟨g7, e22, rfl, -, b22, c22⟩
      have H9 : Hold w [] w22 [rB g2 74 ([v, u]), rR u8 5 a_5 xs, rR kW 112 b_5 ps, rR i64 2 r7 cs, rR u8 5 a_9 ((dcD xs ps cs).1), rR kW 112 b_9 ((dcD xs ps cs).2), rB g6 49 ([a_9, b_9]), rR u8 5 a_20 xs, rR kW 112 b_20 ps, rB g7 49 ([.slice none 0 0, .slice none 0 0])] := Hold.newB H8 e22 b22 c22
      clear H8
      clear e22 b22 c22
      have b23 : B w22 g7 49 ([.slice none 0 0, .slice none 0 0]) := Hold.blk H9 9 rfl
      obtain ⟨_, R25⟩ : ∃ F, Kd.R kW w22 F b_20 ps := Hold.row H9 8 rfl
      obtain ⟨_, R26⟩ : ∃ F, Kd.R u8 w22 F a_20 xs := Hold.row H9 7 rfl
      refine ef0 (xst (vs := [a_20, b_20]) ti49 rfl rfl rfl b23 rfl (Nat.le_of_ble_eq_true rfl) (oc (R26).oneCell (oc (R25).oneCell on))) ?_
      rintro w24 ⟨-, b24, c24⟩
      have H10 : Hold w [] w24 [rB g2 74 ([v, u]), rR u8 5 a_5 xs, rR kW 112 b_5 ps, rR i64 2 r7 cs, rR u8 5 a_9 ((dcD xs ps cs).1), rR kW 112 b_9 ((dcD xs ps cs).2), rB g6 49 ([a_9, b_9]), rR u8 5 a_20 xs, rR kW 112 b_20 ps, rB g7 49 ([a_20, b_20])] := Hold.setB H9 9 rfl b24 c24 rfl
      clear H9
      clear b24 c24
      refine re (sq ?_)
      refine gen (fun ρ => ρ 1 = cv ∧ ρ 2 = .pointer (some ⟨g2, 0, none⟩) ∧ ρ 4 = .bool false ∧ ρ 6 = .pointer (some ⟨g6, 0, none⟩) ∧ ρ 7 = .pointer (some ⟨g7, 0, none⟩) ∧ True) ⟨z1, z2, z4, rfl, rfl, trivial⟩ ?_
      rintro ρ ⟨z1, z2, z4, z6, z7, -⟩
      refine rg (r (mv z1) (cl go24 (toInt64S_H (hc.t (Hold.ch H10)) (by first | assumption | omega | (simp; omega))) (ac rfl an) ?_))
      rintro r27 wt27 Ht27
      have H11 : Hold w [] wt27 [rB g2 74 ([v, u]), rR u8 5 a_5 xs, rR kW 112 b_5 ps, rR i64 2 r7 cs, rR u8 5 a_9 ((dcD xs ps cs).1), rR kW 112 b_9 ((dcD xs ps cs).2), rB g6 49 ([a_9, b_9]), rR u8 5 a_20 xs, rR kW 112 b_20 ps, rB g7 49 ([a_20, b_20]), rR i64 2 r27 cs] := Hold.news H10 Ht27
      clear H10
      clear Ht27
      have b29 : B wt27 g7 49 ([a_20, b_20]) := Hold.blk H11 9 rfl
      obtain ⟨_, R32⟩ : ∃ F, Kd.R u8 wt27 F a_20 xs := Hold.row H11 7 rfl
      obtain ⟨_, R33⟩ : ∃ F, Kd.R kW wt27 F b_20 ps := Hold.row H11 8 rfl
      obtain ⟨_, R34⟩ : ∃ F, Kd.R i64 wt27 F r27 cs := Hold.row H11 10 rfl
      refine r (sa rfl) (re (sq (rg (r (lab [a_20, b_20] Try.underlying49 rfl ti49 z7 b29 rfl rfl) (r (mv rfl) (cl go87 (impl_DiskCrash R32 R33 lx hlp lxx R34 lz) (ac rfl (ac rfl an)) ?_))))))
      rintro r wD30 ⟨a_30, b_30, rfl, HD30⟩
      have H12 : Hold w [] wD30 [rB g2 74 ([v, u]), rR u8 5 a_5 xs, rR kW 112 b_5 ps, rR i64 2 r7 cs, rR u8 5 a_9 ((dcD xs ps cs).1), rR kW 112 b_9 ((dcD xs ps cs).2), rB g6 49 ([a_9, b_9]), rR u8 5 a_20 xs, rR kW 112 b_20 ps, rB g7 49 ([a_20, b_20]), rR i64 2 r27 cs, rR u8 5 a_30 ((dcD xs ps cs).1), rR kW 112 b_30 ((dcD xs ps cs).2)] := Hold.news H11 HD30
      clear H11
      clear HD30
      refine ef (xal ti49) ?_
      rintro _ w35 ⟨g9, e35, rfl, -, b35, c35⟩
      have H13 : Hold w [] w35 [rB g2 74 ([v, u]), rR u8 5 a_5 xs, rR kW 112 b_5 ps, rR i64 2 r7 cs, rR u8 5 a_9 ((dcD xs ps cs).1), rR kW 112 b_9 ((dcD xs ps cs).2), rB g6 49 ([a_9, b_9]), rR u8 5 a_20 xs, rR kW 112 b_20 ps, rB g7 49 ([a_20, b_20]), rR i64 2 r27 cs, rR u8 5 a_30 ((dcD xs ps cs).1), rR kW 112 b_30 ((dcD xs ps cs).2), rB g9 49 ([.slice none 0 0, .slice none 0 0])] := Hold.newB H12 e35 b35 c35
      clear H12
      clear e35 b35 c35
      have b36 : B w35 g9 49 ([.slice none 0 0, .slice none 0 0]) := Hold.blk H13 13 rfl
      obtain ⟨_, R38⟩ : ∃ F, Kd.R kW w35 F b_30 ((dcD xs ps cs).2) := Hold.row H13 12 rfl
      obtain ⟨_, R39⟩ : ∃ F, Kd.R u8 w35 F a_30 ((dcD xs ps cs).1) := Hold.row H13 11 rfl
      refine ef0 (xst (vs := [a_30, b_30]) ti49 rfl rfl rfl b36 rfl (Nat.le_of_ble_eq_true rfl) (oc (R39).oneCell (oc (R38).oneCell on))) ?_
      rintro w37 ⟨-, b37, c37⟩
      have H14 : Hold w [] w37 [rB g2 74 ([v, u]), rR u8 5 a_5 xs, rR kW 112 b_5 ps, rR i64 2 r7 cs, rR u8 5 a_9 ((dcD xs ps cs).1), rR kW 112 b_9 ((dcD xs ps cs).2), rB g6 49 ([a_9, b_9]), rR u8 5 a_20 xs, rR kW 112 b_20 ps, rB g7 49 ([a_20, b_20]), rR i64 2 r27 cs, rR u8 5 a_30 ((dcD xs ps cs).1), rR kW 112 b_30 ((dcD xs ps cs).2), rB g9 49 ([a_30, b_30])] := Hold.setB H13 13 rfl b37 c37 rfl
      clear H13
      clear b37 c37
      have b40 : B w37 g9 49 ([a_30, b_30]) := Hold.blk H14 13 rfl
      have b41 : B w37 g6 49 ([a_9, b_9]) := Hold.blk H14 6 rfl
      obtain ⟨_, R44⟩ : ∃ F, Kd.R u8 w37 F a_30 ((dcD xs ps cs).1) := Hold.row H14 11 rfl
      obtain ⟨_, R45⟩ : ∃ F, Kd.R kW w37 F b_30 ((dcD xs ps cs).2) := Hold.row H14 12 rfl
      obtain ⟨_, R46⟩ : ∃ F, Kd.R u8 w37 F a_9 ((dcD xs ps cs).1) := Hold.row H14 4 rfl
      obtain ⟨_, R47⟩ : ∃ F, Kd.R kW w37 F b_9 ((dcD xs ps cs).2) := Hold.row H14 5 rfl
      refine re (sq (sq (rg (r (lab [a_30, b_30] Try.underlying49 rfl ti49 rfl b40 rfl rfl) (r (lab [a_9, b_9] Try.underlying49 rfl ti49 z6 b41 rfl rfl) (cl go41 (eqDisk R44 R45 R46 R47 (by first | assumption | omega | (simp; omega)) (by first | assumption | omega | (simp; omega)) (by assumption)) (ac rfl (ac rfl an)) ?_))))))
      rintro r wq42 ⟨rfl, cq42⟩
      have H15 : Hold w [] wq42 [rB g2 74 ([v, u]), rR u8 5 a_5 xs, rR kW 112 b_5 ps, rR i64 2 r7 cs, rR u8 5 a_9 ((dcD xs ps cs).1), rR kW 112 b_9 ((dcD xs ps cs).2), rB g6 49 ([a_9, b_9]), rR u8 5 a_20 xs, rR kW 112 b_20 ps, rB g7 49 ([a_20, b_20]), rR i64 2 r27 cs, rR u8 5 a_30 ((dcD xs ps cs).1), rR kW 112 b_30 ((dcD xs ps cs).2), rB g9 49 ([a_30, b_30])] := Hold.t H14 cq42
      clear H14
      clear cq42
      refine r (nt rfl) (re ?_)
      refine cf ((rfl : _ = Value.bool (!(decide (((dcD xs ps cs).1, (dcD xs ps cs).2) = ((dcD xs ps cs).1, (dcD xs ps cs).2))))).trans (congrArg Value.bool (show (!(decide (((dcD xs ps cs).1, (dcD xs ps cs).2) = ((dcD xs ps cs).1, (dcD xs ps cs).2)))) = false from (by rw [decide_eq_true rfl]; rfl)))) ?_
      refine sk (sq (sq ?_))
      refine gen (fun ρ => ρ 1 = cv ∧ ρ 2 = .pointer (some ⟨g2, 0, none⟩) ∧ ρ 4 = .bool false ∧ ρ 6 = .pointer (some ⟨g6, 0, none⟩) ∧ ρ 7 = .pointer (some ⟨g7, 0, none⟩) ∧ ρ 8 = r27 ∧ ρ 9 = .pointer (some ⟨g9, 0, none⟩) ∧ True) ⟨z1, z2, z4, z6, z7, rfl, rfl, trivial⟩ ?_
      rintro ρ ⟨z1, z2, z4, z6, z7, z8, z9, -⟩
      refine rde mixed ?_
      intro w48 c48
      have H16 : Hold w [] w48 [rB g2 74 ([v, u]), rR u8 5 a_5 xs, rR kW 112 b_5 ps, rR i64 2 r7 cs, rR u8 5 a_9 ((dcD xs ps cs).1), rR kW 112 b_9 ((dcD xs ps cs).2), rB g6 49 ([a_9, b_9]), rR u8 5 a_20 xs, rR kW 112 b_20 ps, rB g7 49 ([a_20, b_20]), rR i64 2 r27 cs, rR u8 5 a_30 ((dcD xs ps cs).1), rR kW 112 b_30 ((dcD xs ps cs).2), rB g9 49 ([a_30, b_30])] := Hold.t H15 c48
      clear H15
      clear c48
      have H49d0 : Hold w48 [] w48 [] := Hold.start w48
      refine ⟨fun w' => Ch [] w48 w', Ch.refl _ _, ?_⟩
      have b50 : B w48 g7 49 ([a_20, b_20]) := Hold.blk H16 9 rfl
      have b51 : B w48 g2 74 ([v, u]) := Hold.blk H16 0 rfl
      refine edt 0 rfl (by kernel_rfl) (fun w' hS => lab [a_20, b_20] Try.underlying49 rfl ti49 z7 (hS.b0 b50) rfl rfl) (edt 1 rfl (by kernel_rfl) (fun w' hS => lab [v, u] Try.underlying74 rfl ti74 z2 (hS.b0 b51) rfl rfl) (ed1 2 (by kernel_rfl) <| euc rfl go58 (ac rfl an) (toDisk_H ((hx.t (Hold.ch H16)).t (Hold.ch H49d0)) ((hp.t (Hold.ch H16)).t (Hold.ch H49d0)) (by first | assumption | omega | (simp; omega)) (by first | assumption | omega | (simp; omega)) (by assumption)) ?_))
      rintro r wt52 ⟨a_52, b_52, rfl, Ht52⟩
      have H17d : Hold w48 [] wt52 [rR u8 5 a_52 xs, rR kW 112 b_52 ps] := Hold.news H49d0 Ht52
      clear H49d0
      clear Ht52
      refine ⟨.inr (Hold.ch H17d), ?_⟩
      obtain ⟨_, R56⟩ : ∃ F, Kd.R u8 w48 F a_20 xs := Hold.row H16 7 rfl
      obtain ⟨_, R57⟩ : ∃ F, Kd.R kW w48 F b_20 ps := Hold.row H16 8 rfl
      obtain ⟨_, R58⟩ : ∃ F, Kd.R u8 wt52 F a_52 xs := Hold.row H17d 0 rfl
      obtain ⟨_, R59⟩ : ∃ F, Kd.R kW wt52 F b_52 ps := Hold.row H17d 1 rfl
      refine ed1 3 (by kernel_rfl) <| euc rfl go41 (ac rfl (ac rfl an)) (eqDisk (R56.t (Hold.ch H17d)) (R57.t (Hold.ch H17d)) R58 R59 (by first | assumption | omega | (simp; omega)) (by first | assumption | omega | (simp; omega)) (by assumption)) ?_
      rintro r wq54 ⟨rfl, cq54⟩
      have H18d : Hold w48 [] wq54 [rR u8 5 a_52 xs, rR kW 112 b_52 ps] := Hold.t H17d cq54
      clear H17d
      clear cq54
      refine ⟨.inr (Hold.ch H18d), ?_⟩
      have H19 : Hold w [] wq54 [rB g2 74 ([v, u]), rR u8 5 a_5 xs, rR kW 112 b_5 ps, rR i64 2 r7 cs, rR u8 5 a_9 ((dcD xs ps cs).1), rR kW 112 b_9 ((dcD xs ps cs).2), rB g6 49 ([a_9, b_9]), rR u8 5 a_20 xs, rR kW 112 b_20 ps, rB g7 49 ([a_20, b_20]), rR i64 2 r27 cs, rR u8 5 a_30 ((dcD xs ps cs).1), rR kW 112 b_30 ((dcD xs ps cs).2), rB g9 49 ([a_30, b_30]), rR u8 5 a_52 xs, rR kW 112 b_52 ps] := Hold.news H16 H18d
      clear H18d H16
      refine ed1 4 (by kernel_rfl) <| eur rfl (nt rfl) (.inl (by kernel_rfl)) ?_
      refine edd (by kernel_rfl) ?_
      refine cf ((rfl : _ = Value.bool (!(decide ((xs, ps) = (xs, ps))))).trans (congrArg Value.bool (show (!(decide ((xs, ps) = (xs, ps)))) = false from (by rw [decide_eq_true rfl]; rfl)))) ?_
      refine sk (sq (sq (rg (r (mv z8) (r (mv z1) (cl go24 (toInt64S_H (hc.t (Hold.ch H19)) (by first | assumption | omega | (simp; omega))) (ac rfl an) ?_))))))
      rintro r60 wt60 Ht60
      have H20 : Hold w [] wt60 [rB g2 74 ([v, u]), rR u8 5 a_5 xs, rR kW 112 b_5 ps, rR i64 2 r7 cs, rR u8 5 a_9 ((dcD xs ps cs).1), rR kW 112 b_9 ((dcD xs ps cs).2), rB g6 49 ([a_9, b_9]), rR u8 5 a_20 xs, rR kW 112 b_20 ps, rB g7 49 ([a_20, b_20]), rR i64 2 r27 cs, rR u8 5 a_30 ((dcD xs ps cs).1), rR kW 112 b_30 ((dcD xs ps cs).2), rB g9 49 ([a_30, b_30]), rR u8 5 a_52 xs, rR kW 112 b_52 ps, rR i64 2 r60 cs] := Hold.news H19 Ht60
      clear H19
      clear Ht60
      obtain ⟨_, R64⟩ : ∃ F, Kd.R i64 wt60 F r27 cs := Hold.row H20 10 rfl
      obtain ⟨_, R65⟩ : ∃ F, Kd.R i64 wt60 F r60 cs := Hold.row H20 16 rfl
      refine cl go26 (eqInt64S R64 R65 (by first | assumption | omega | (simp; omega))) (ac rfl (ac rfl an)) ?_
      rintro r wq62 ⟨rfl, cq62⟩
      have H21 : Hold w [] wq62 [rB g2 74 ([v, u]), rR u8 5 a_5 xs, rR kW 112 b_5 ps, rR i64 2 r7 cs, rR u8 5 a_9 ((dcD xs ps cs).1), rR kW 112 b_9 ((dcD xs ps cs).2), rB g6 49 ([a_9, b_9]), rR u8 5 a_20 xs, rR kW 112 b_20 ps, rB g7 49 ([a_20, b_20]), rR i64 2 r27 cs, rR u8 5 a_30 ((dcD xs ps cs).1), rR kW 112 b_30 ((dcD xs ps cs).2), rB g9 49 ([a_30, b_30]), rR u8 5 a_52 xs, rR kW 112 b_52 ps, rR i64 2 r60 cs] := Hold.t H20 cq62
      clear H20
      clear cq62
      refine r (nt rfl) (re ?_)
      refine cf ((rfl : _ = Value.bool (!(decide (cs = cs)))).trans (congrArg Value.bool (show (!(decide (cs = cs))) = false from (by rw [decide_eq_true rfl]; rfl)))) ?_
      refine sk (sq ?_)
      refine gen (fun ρ => ρ 1 = cv ∧ ρ 2 = .pointer (some ⟨g2, 0, none⟩) ∧ ρ 4 = .bool false ∧ ρ 6 = .pointer (some ⟨g6, 0, none⟩) ∧ ρ 7 = .pointer (some ⟨g7, 0, none⟩) ∧ ρ 8 = r27 ∧ ρ 9 = .pointer (some ⟨g9, 0, none⟩) ∧ True) ⟨z1, z2, z4, z6, z7, z8, z9, trivial⟩ ?_
      rintro ρ ⟨z1, z2, z4, z6, z7, z8, z9, -⟩
      have b66 : B wq62 g7 49 ([a_20, b_20]) := Hold.blk H21 9 rfl
      have H22 : Hold w [] wq62 [rR u8 5 a_20 xs, rR kW 112 b_20 ps, rB g2 74 ([v, u]), rR u8 5 a_5 xs, rR kW 112 b_5 ps, rR i64 2 r7 cs, rR u8 5 a_9 ((dcD xs ps cs).1), rR kW 112 b_9 ((dcD xs ps cs).2), rB g6 49 ([a_9, b_9]), rB g7 49 ([a_20, b_20]), rR i64 2 r27 cs, rR u8 5 a_30 ((dcD xs ps cs).1), rR kW 112 b_30 ((dcD xs ps cs).2), rB g9 49 ([a_30, b_30]), rR u8 5 a_52 xs, rR kW 112 b_52 ps, rR i64 2 r60 cs] := Hold.re H21 [7, 8, 0, 1, 2, 3, 4, 5, 6, 9, 10, 11, 12, 13, 14, 15, 16] (by kernel_rfl) (by rfl)
      clear H21
      obtain ⟨F68, hF68, n68, s68, K68⟩ := Hold.front (Γ := [rR u8 5 a_20 xs, rR kW 112 b_20 ps]) (Δ := [rB g2 74 ([v, u]), rR u8 5 a_5 xs, rR kW 112 b_5 ps, rR i64 2 r7 cs, rR u8 5 a_9 ((dcD xs ps cs).1), rR kW 112 b_9 ((dcD xs ps cs).2), rB g6 49 ([a_9, b_9]), rB g7 49 ([a_20, b_20]), rR i64 2 r27 cs, rR u8 5 a_30 ((dcD xs ps cs).1), rR kW 112 b_30 ((dcD xs ps cs).2), rB g9 49 ([a_30, b_30]), rR u8 5 a_52 xs, rR kW 112 b_52 ps, rR i64 2 r60 cs]) H22
      refine rg (r (sa rfl) (re (sq (rg (r (lab [a_20, b_20] Try.underlying49 rfl ti49 z7 b66 rfl rfl) (r (mv rfl) (cl go42 (markDisk_H hF68 n68 (by omega) (by first | assumption | omega | (simp; omega)) (by first | assumption | omega)) (ac rfl (ac rfl an)) ?_)))))))
      rintro r wm67 ⟨rfl, Hm67⟩
      have H23 : Hold w [] wm67 [rR u8 5 a_20 (marks 1 xs.length), rR kW 112 b_20 (mkW (1 + xs.length) ps), rB g2 74 ([v, u]), rR u8 5 a_5 xs, rR kW 112 b_5 ps, rR i64 2 r7 cs, rR u8 5 a_9 ((dcD xs ps cs).1), rR kW 112 b_9 ((dcD xs ps cs).2), rB g6 49 ([a_9, b_9]), rB g7 49 ([a_20, b_20]), rR i64 2 r27 cs, rR u8 5 a_30 ((dcD xs ps cs).1), rR kW 112 b_30 ((dcD xs ps cs).2), rB g9 49 ([a_30, b_30]), rR u8 5 a_52 xs, rR kW 112 b_52 ps, rR i64 2 r60 cs] := Hold.call K68 Hm67
      clear H22
      clear K68 hF68 n68 s68
      clear Hm67
      have H24 : Hold w [] wm67 [rR i64 2 r27 cs, rR u8 5 a_20 (marks 1 xs.length), rR kW 112 b_20 (mkW (1 + xs.length) ps), rB g2 74 ([v, u]), rR u8 5 a_5 xs, rR kW 112 b_5 ps, rR i64 2 r7 cs, rR u8 5 a_9 ((dcD xs ps cs).1), rR kW 112 b_9 ((dcD xs ps cs).2), rB g6 49 ([a_9, b_9]), rB g7 49 ([a_20, b_20]), rR u8 5 a_30 ((dcD xs ps cs).1), rR kW 112 b_30 ((dcD xs ps cs).2), rB g9 49 ([a_30, b_30]), rR u8 5 a_52 xs, rR kW 112 b_52 ps, rR i64 2 r60 cs] := Hold.re H23 [10, 0, 1, 2, 3, 4, 5, 6, 7, 8, 9, 11, 12, 13, 14, 15, 16] (by kernel_rfl) (by rfl)
      clear H23
      obtain ⟨F70, hF70, n70, s70, K70⟩ := Hold.front (Γ := [rR i64 2 r27 cs]) (Δ := [rR u8 5 a_20 (marks 1 xs.length), rR kW 112 b_20 (mkW (1 + xs.length) ps), rB g2 74 ([v, u]), rR u8 5 a_5 xs, rR kW 112 b_5 ps, rR i64 2 r7 cs, rR u8 5 a_9 ((dcD xs ps cs).1), rR kW 112 b_9 ((dcD xs ps cs).2), rB g6 49 ([a_9, b_9]), rB g7 49 ([a_20, b_20]), rR u8 5 a_30 ((dcD xs ps cs).1), rR kW 112 b_30 ((dcD xs ps cs).2), rB g9 49 ([a_30, b_30]), rR u8 5 a_52 xs, rR kW 112 b_52 ps, rR i64 2 r60 cs]) H24
      refine r (sa rfl) (re (sq (rg (r (mv z8) (r (mv rfl) (cl go50 (markInt64S_H hF70 n70 (by omega) (by first | assumption | omega | (simp; omega))) (ac rfl (ac rfl an)) ?_))))))
      rintro r wm69 ⟨rfl, Hm69⟩
      have H25 : Hold w [] wm69 [rR i64 2 r27 (marks8 (1 + (xs.length : Int) + (szW ps : Int)) cs.length), rR u8 5 a_20 (marks 1 xs.length), rR kW 112 b_20 (mkW (1 + xs.length) ps), rB g2 74 ([v, u]), rR u8 5 a_5 xs, rR kW 112 b_5 ps, rR i64 2 r7 cs, rR u8 5 a_9 ((dcD xs ps cs).1), rR kW 112 b_9 ((dcD xs ps cs).2), rB g6 49 ([a_9, b_9]), rB g7 49 ([a_20, b_20]), rR u8 5 a_30 ((dcD xs ps cs).1), rR kW 112 b_30 ((dcD xs ps cs).2), rB g9 49 ([a_30, b_30]), rR u8 5 a_52 xs, rR kW 112 b_52 ps, rR i64 2 r60 cs] := Hold.call K70 Hm69
      clear H24
      clear K70 hF70 n70 s70
      clear Hm69
      refine r (sa rfl) (re (sq (sq (rg (r (mv rfl) (r (bi rfl rfl rfl) (r (mv rfl) ?_)))))))
      refine spf 56 rfl (show (decide (((1 + (xs.length : Int) + (szW ps : Int)) + (cs.length : Int)) < 0)) = false from (decide_eq_false (by omega))) ?_
      have b71 : B wm69 g9 49 ([a_30, b_30]) := Hold.blk H25 13 rfl
      have b72 : B wm69 g6 49 ([a_9, b_9]) := Hold.blk H25 9 rfl
      obtain ⟨_, R75⟩ : ∃ F, Kd.R u8 wm69 F a_30 ((dcD xs ps cs).1) := Hold.row H25 11 rfl
      obtain ⟨_, R76⟩ : ∃ F, Kd.R kW wm69 F b_30 ((dcD xs ps cs).2) := Hold.row H25 12 rfl
      obtain ⟨_, R77⟩ : ∃ F, Kd.R u8 wm69 F a_9 ((dcD xs ps cs).1) := Hold.row H25 7 rfl
      obtain ⟨_, R78⟩ : ∃ F, Kd.R kW wm69 F b_9 ((dcD xs ps cs).2) := Hold.row H25 8 rfl
      refine gy rfl rfl rfl (r (lab [a_30, b_30] Try.underlying49 rfl ti49 z9 b71 rfl rfl) (gy rfl rfl rfl (r (lab [a_9, b_9] Try.underlying49 rfl ti49 z6 b72 rfl rfl) (gy rfl rfl rfl (cl go41 (eqDisk R75 R76 R77 R78 (by first | assumption | omega | (simp; omega)) (by first | assumption | omega | (simp; omega)) (by assumption)) (ac rfl (ac rfl an)) ?_)))))
      rintro r wq73 ⟨rfl, cq73⟩
      have H26 : Hold w [] wq73 [rR i64 2 r27 (marks8 (1 + (xs.length : Int) + (szW ps : Int)) cs.length), rR u8 5 a_20 (marks 1 xs.length), rR kW 112 b_20 (mkW (1 + xs.length) ps), rB g2 74 ([v, u]), rR u8 5 a_5 xs, rR kW 112 b_5 ps, rR i64 2 r7 cs, rR u8 5 a_9 ((dcD xs ps cs).1), rR kW 112 b_9 ((dcD xs ps cs).2), rB g6 49 ([a_9, b_9]), rB g7 49 ([a_20, b_20]), rR u8 5 a_30 ((dcD xs ps cs).1), rR kW 112 b_30 ((dcD xs ps cs).2), rB g9 49 ([a_30, b_30]), rR u8 5 a_52 xs, rR kW 112 b_52 ps, rR i64 2 r60 cs] := Hold.t H25 cq73
      clear H25
      clear cq73
      refine gy rfl rfl rfl (r (nt rfl) (r (pk rfl rfl) (re ?_)))
      refine cf ((rfl : _ = Value.bool (!(decide (((dcD xs ps cs).1, (dcD xs ps cs).2) = ((dcD xs ps cs).1, (dcD xs ps cs).2))))).trans (congrArg Value.bool (show (!(decide (((dcD xs ps cs).1, (dcD xs ps cs).2) = ((dcD xs ps cs).1, (dcD xs ps cs).2)))) = false from (by rw [decide_eq_true rfl]; rfl)))) ?_
      refine sk (sq ?_)
      refine gen (fun ρ => ρ 1 = cv ∧ ρ 2 = .pointer (some ⟨g2, 0, none⟩) ∧ ρ 4 = .bool false ∧ ρ 6 = .pointer (some ⟨g6, 0, none⟩) ∧ ρ 9 = .pointer (some ⟨g9, 0, none⟩) ∧ True) ⟨z1, z2, z4, z6, z9, trivial⟩ ?_
      rintro ρ ⟨z1, z2, z4, z6, z9, -⟩
      have b79 : B wq73 g9 49 ([a_30, b_30]) := Hold.blk H26 13 rfl
      have H27 : Hold w [] wq73 [rR u8 5 a_30 ((dcD xs ps cs).1), rR kW 112 b_30 ((dcD xs ps cs).2), rR i64 2 r27 (marks8 (1 + (xs.length : Int) + (szW ps : Int)) cs.length), rR u8 5 a_20 (marks 1 xs.length), rR kW 112 b_20 (mkW (1 + xs.length) ps), rB g2 74 ([v, u]), rR u8 5 a_5 xs, rR kW 112 b_5 ps, rR i64 2 r7 cs, rR u8 5 a_9 ((dcD xs ps cs).1), rR kW 112 b_9 ((dcD xs ps cs).2), rB g6 49 ([a_9, b_9]), rB g7 49 ([a_20, b_20]), rB g9 49 ([a_30, b_30]), rR u8 5 a_52 xs, rR kW 112 b_52 ps, rR i64 2 r60 cs] := Hold.re H26 [11, 12, 0, 1, 2, 3, 4, 5, 6, 7, 8, 9, 10, 13, 14, 15, 16] (by kernel_rfl) (by rfl)
      clear H26
      obtain ⟨F81, hF81, n81, s81, K81⟩ := Hold.front (Γ := [rR u8 5 a_30 ((dcD xs ps cs).1), rR kW 112 b_30 ((dcD xs ps cs).2)]) (Δ := [rR i64 2 r27 (marks8 (1 + (xs.length : Int) + (szW ps : Int)) cs.length), rR u8 5 a_20 (marks 1 xs.length), rR kW 112 b_20 (mkW (1 + xs.length) ps), rB g2 74 ([v, u]), rR u8 5 a_5 xs, rR kW 112 b_5 ps, rR i64 2 r7 cs, rR u8 5 a_9 ((dcD xs ps cs).1), rR kW 112 b_9 ((dcD xs ps cs).2), rB g6 49 ([a_9, b_9]), rB g7 49 ([a_20, b_20]), rB g9 49 ([a_30, b_30]), rR u8 5 a_52 xs, rR kW 112 b_52 ps, rR i64 2 r60 cs]) H27
      refine rg (r (sa rfl) (re (sq (rg (r (lab [a_30, b_30] Try.underlying49 rfl ti49 z9 b79 rfl rfl) (r (mv rfl) (cl go42 (markDisk_H hF81 n81 (by omega) (by first | assumption | omega | (simp; omega)) (by first | assumption | omega)) (ac rfl (ac rfl an)) ?_)))))))
      rintro r wm80 ⟨rfl, Hm80⟩
      have H28 : Hold w [] wm80 [rR u8 5 a_30 (marks 1 ((dcD xs ps cs).1).length), rR kW 112 b_30 (mkW (1 + ((dcD xs ps cs).1).length) ((dcD xs ps cs).2)), rR i64 2 r27 (marks8 (1 + (xs.length : Int) + (szW ps : Int)) cs.length), rR u8 5 a_20 (marks 1 xs.length), rR kW 112 b_20 (mkW (1 + xs.length) ps), rB g2 74 ([v, u]), rR u8 5 a_5 xs, rR kW 112 b_5 ps, rR i64 2 r7 cs, rR u8 5 a_9 ((dcD xs ps cs).1), rR kW 112 b_9 ((dcD xs ps cs).2), rB g6 49 ([a_9, b_9]), rB g7 49 ([a_20, b_20]), rB g9 49 ([a_30, b_30]), rR u8 5 a_52 xs, rR kW 112 b_52 ps, rR i64 2 r60 cs] := Hold.call K81 Hm80
      clear H27
      clear K81 hF81 n81 s81
      clear Hm80
      have b82 : B wm80 g9 49 ([a_30, b_30]) := Hold.blk H28 13 rfl
      obtain ⟨_, R85⟩ : ∃ F, Kd.R u8 wm80 F a_30 (marks 1 ((dcD xs ps cs).1).length) := Hold.row H28 0 rfl
      obtain ⟨_, R86⟩ : ∃ F, Kd.R kW wm80 F b_30 (mkW (1 + ((dcD xs ps cs).1).length) ((dcD xs ps cs).2)) := Hold.row H28 1 rfl
      refine r (sa rfl) (re (sq (rg (r (sa rfl) (re (sq (rg (r (lab [a_30, b_30] Try.underlying49 rfl ti49 z9 b82 rfl rfl) (r (mv rfl) (cl go43 (heldDisk (n := ((dcD xs ps cs).1).length) (ps := ((dcD xs ps cs).2)) R85 R86 (by omega) (by first | assumption | omega | (simp; omega)) (by first | assumption | omega)) (ac rfl (ac rfl an)) ?_))))))))))
      rintro r wh83 ⟨rfl, ch83⟩
      have H29 : Hold w [] wh83 [rR u8 5 a_30 (marks 1 ((dcD xs ps cs).1).length), rR kW 112 b_30 (mkW (1 + ((dcD xs ps cs).1).length) ((dcD xs ps cs).2)), rR i64 2 r27 (marks8 (1 + (xs.length : Int) + (szW ps : Int)) cs.length), rR u8 5 a_20 (marks 1 xs.length), rR kW 112 b_20 (mkW (1 + xs.length) ps), rB g2 74 ([v, u]), rR u8 5 a_5 xs, rR kW 112 b_5 ps, rR i64 2 r7 cs, rR u8 5 a_9 ((dcD xs ps cs).1), rR kW 112 b_9 ((dcD xs ps cs).2), rB g6 49 ([a_9, b_9]), rB g7 49 ([a_20, b_20]), rB g9 49 ([a_30, b_30]), rR u8 5 a_52 xs, rR kW 112 b_52 ps, rR i64 2 r60 cs] := Hold.t H28 ch83
      clear H28
      clear ch83
      refine r (sa rfl) (re (sq (sq ?_)))
      refine gen (fun ρ => ρ 1 = cv ∧ ρ 2 = .pointer (some ⟨g2, 0, none⟩) ∧ ρ 4 = .bool false ∧ ρ 6 = .pointer (some ⟨g6, 0, none⟩) ∧ ρ 11 = .int .i64 (1 + (((dcD xs ps cs).1).length : Int) + (szW ((dcD xs ps cs).2) : Int)) ∧ ρ 12 = .int .i64 (1 + ((((dcD xs ps cs).1).length : Nat) : Int) + (szW ((dcD xs ps cs).2) : Int)) ∧ True) ⟨z1, z2, z4, z6, rfl, rfl, trivial⟩ ?_
      rintro ρ ⟨z1, z2, z4, z6, z11, z12, -⟩
      refine rg (r (mv z12) (r (bi rfl rfl rfl) (re ?_)))
      refine cf ((rfl : _ = Value.bool (decide ((1 + ((((dcD xs ps cs).1).length : Nat) : Int) + (szW ((dcD xs ps cs).2) : Int)) < 0))).trans (congrArg Value.bool (show (decide ((1 + ((((dcD xs ps cs).1).length : Nat) : Int) + (szW ((dcD xs ps cs).2) : Int)) < 0)) = false from (decide_eq_false (by omega))))) ?_
      refine sk (sq (sq (rg (r (mv z12) (r (mv z11) (r (bi rfl rfl rfl) (re ?_)))))))
      refine cf ((rfl : _ = Value.bool (!decide ((1 + ((((dcD xs ps cs).1).length : Nat) : Int) + (szW ((dcD xs ps cs).2) : Int)) = (1 + (((dcD xs ps cs).1).length : Int) + (szW ((dcD xs ps cs).2) : Int))))).trans (congrArg Value.bool (show (!decide ((1 + ((((dcD xs ps cs).1).length : Nat) : Int) + (szW ((dcD xs ps cs).2) : Int)) = (1 + (((dcD xs ps cs).1).length : Int) + (szW ((dcD xs ps cs).2) : Int)))) = false from (by rw [decide_eq_true (by omega)]; rfl)))) ?_
      have b87 : B wh83 g2 74 ([v, u]) := Hold.blk H29 5 rfl
      refine sk (sq (rg (r (lab [v, u] Try.underlying74 rfl ti74 z2 b87 rfl rfl) (cl go58 (toDisk_H (hx.t (Hold.ch H29)) (hp.t (Hold.ch H29)) (by first | assumption | omega | (simp; omega)) (by first | assumption | omega | (simp; omega)) (by assumption)) (ac rfl an) ?_))))
      rintro r wt88 ⟨a_88, b_88, rfl, Ht88⟩
      have H30 : Hold w [] wt88 [rR u8 5 a_30 (marks 1 ((dcD xs ps cs).1).length), rR kW 112 b_30 (mkW (1 + ((dcD xs ps cs).1).length) ((dcD xs ps cs).2)), rR i64 2 r27 (marks8 (1 + (xs.length : Int) + (szW ps : Int)) cs.length), rR u8 5 a_20 (marks 1 xs.length), rR kW 112 b_20 (mkW (1 + xs.length) ps), rB g2 74 ([v, u]), rR u8 5 a_5 xs, rR kW 112 b_5 ps, rR i64 2 r7 cs, rR u8 5 a_9 ((dcD xs ps cs).1), rR kW 112 b_9 ((dcD xs ps cs).2), rB g6 49 ([a_9, b_9]), rB g7 49 ([a_20, b_20]), rB g9 49 ([a_30, b_30]), rR u8 5 a_52 xs, rR kW 112 b_52 ps, rR i64 2 r60 cs, rR u8 5 a_88 xs, rR kW 112 b_88 ps] := Hold.news H29 Ht88
      clear H29
      clear Ht88
      refine r (mv z1) (cl go24 (toInt64S_H (hc.t (Hold.ch H30)) (by first | assumption | omega | (simp; omega))) (ac rfl an) ?_)
      rintro r90 wt90 Ht90
      have H31 : Hold w [] wt90 [rR u8 5 a_30 (marks 1 ((dcD xs ps cs).1).length), rR kW 112 b_30 (mkW (1 + ((dcD xs ps cs).1).length) ((dcD xs ps cs).2)), rR i64 2 r27 (marks8 (1 + (xs.length : Int) + (szW ps : Int)) cs.length), rR u8 5 a_20 (marks 1 xs.length), rR kW 112 b_20 (mkW (1 + xs.length) ps), rB g2 74 ([v, u]), rR u8 5 a_5 xs, rR kW 112 b_5 ps, rR i64 2 r7 cs, rR u8 5 a_9 ((dcD xs ps cs).1), rR kW 112 b_9 ((dcD xs ps cs).2), rB g6 49 ([a_9, b_9]), rB g7 49 ([a_20, b_20]), rB g9 49 ([a_30, b_30]), rR u8 5 a_52 xs, rR kW 112 b_52 ps, rR i64 2 r60 cs, rR u8 5 a_88 xs, rR kW 112 b_88 ps, rR i64 2 r90 cs] := Hold.news H30 Ht90
      clear H30
      clear Ht90
      obtain ⟨_, R94⟩ : ∃ F, Kd.R u8 wt90 F a_88 xs := Hold.row H31 17 rfl
      obtain ⟨_, R95⟩ : ∃ F, Kd.R kW wt90 F b_88 ps := Hold.row H31 18 rfl
      obtain ⟨_, R96⟩ : ∃ F, Kd.R i64 wt90 F r90 cs := Hold.row H31 19 rfl
      refine cl go87 (impl_DiskCrash R94 R95 lx hlp lxx R96 lz) (ac rfl (ac rfl an)) ?_
      rintro r wD92 ⟨a_92, b_92, rfl, HD92⟩
      have H32 : Hold w [] wD92 [rR u8 5 a_30 (marks 1 ((dcD xs ps cs).1).length), rR kW 112 b_30 (mkW (1 + ((dcD xs ps cs).1).length) ((dcD xs ps cs).2)), rR i64 2 r27 (marks8 (1 + (xs.length : Int) + (szW ps : Int)) cs.length), rR u8 5 a_20 (marks 1 xs.length), rR kW 112 b_20 (mkW (1 + xs.length) ps), rB g2 74 ([v, u]), rR u8 5 a_5 xs, rR kW 112 b_5 ps, rR i64 2 r7 cs, rR u8 5 a_9 ((dcD xs ps cs).1), rR kW 112 b_9 ((dcD xs ps cs).2), rB g6 49 ([a_9, b_9]), rB g7 49 ([a_20, b_20]), rB g9 49 ([a_30, b_30]), rR u8 5 a_52 xs, rR kW 112 b_52 ps, rR i64 2 r60 cs, rR u8 5 a_88 xs, rR kW 112 b_88 ps, rR i64 2 r90 cs, rR u8 5 a_92 ((dcD xs ps cs).1), rR kW 112 b_92 ((dcD xs ps cs).2)] := Hold.news H31 HD92
      clear H31
      clear HD92
      refine ef (xal ti49) ?_
      rintro _ w97 ⟨g13, e97, rfl, -, b97, c97⟩
      have H33 : Hold w [] w97 [rR u8 5 a_30 (marks 1 ((dcD xs ps cs).1).length), rR kW 112 b_30 (mkW (1 + ((dcD xs ps cs).1).length) ((dcD xs ps cs).2)), rR i64 2 r27 (marks8 (1 + (xs.length : Int) + (szW ps : Int)) cs.length), rR u8 5 a_20 (marks 1 xs.length), rR kW 112 b_20 (mkW (1 + xs.length) ps), rB g2 74 ([v, u]), rR u8 5 a_5 xs, rR kW 112 b_5 ps, rR i64 2 r7 cs, rR u8 5 a_9 ((dcD xs ps cs).1), rR kW 112 b_9 ((dcD xs ps cs).2), rB g6 49 ([a_9, b_9]), rB g7 49 ([a_20, b_20]), rB g9 49 ([a_30, b_30]), rR u8 5 a_52 xs, rR kW 112 b_52 ps, rR i64 2 r60 cs, rR u8 5 a_88 xs, rR kW 112 b_88 ps, rR i64 2 r90 cs, rR u8 5 a_92 ((dcD xs ps cs).1), rR kW 112 b_92 ((dcD xs ps cs).2), rB g13 49 ([.slice none 0 0, .slice none 0 0])] := Hold.newB H32 e97 b97 c97
      clear H32
      clear e97 b97 c97
      have b98 : B w97 g13 49 ([.slice none 0 0, .slice none 0 0]) := Hold.blk H33 22 rfl
      obtain ⟨_, R100⟩ : ∃ F, Kd.R kW w97 F b_92 ((dcD xs ps cs).2) := Hold.row H33 21 rfl
      obtain ⟨_, R101⟩ : ∃ F, Kd.R u8 w97 F a_92 ((dcD xs ps cs).1) := Hold.row H33 20 rfl
      refine ef0 (xst (vs := [a_92, b_92]) ti49 rfl rfl rfl b98 rfl (Nat.le_of_ble_eq_true rfl) (oc (R101).oneCell (oc (R100).oneCell on))) ?_
      rintro w99 ⟨-, b99, c99⟩
      have H34 : Hold w [] w99 [rR u8 5 a_30 (marks 1 ((dcD xs ps cs).1).length), rR kW 112 b_30 (mkW (1 + ((dcD xs ps cs).1).length) ((dcD xs ps cs).2)), rR i64 2 r27 (marks8 (1 + (xs.length : Int) + (szW ps : Int)) cs.length), rR u8 5 a_20 (marks 1 xs.length), rR kW 112 b_20 (mkW (1 + xs.length) ps), rB g2 74 ([v, u]), rR u8 5 a_5 xs, rR kW 112 b_5 ps, rR i64 2 r7 cs, rR u8 5 a_9 ((dcD xs ps cs).1), rR kW 112 b_9 ((dcD xs ps cs).2), rB g6 49 ([a_9, b_9]), rB g7 49 ([a_20, b_20]), rB g9 49 ([a_30, b_30]), rR u8 5 a_52 xs, rR kW 112 b_52 ps, rR i64 2 r60 cs, rR u8 5 a_88 xs, rR kW 112 b_88 ps, rR i64 2 r90 cs, rR u8 5 a_92 ((dcD xs ps cs).1), rR kW 112 b_92 ((dcD xs ps cs).2), rB g13 49 ([a_92, b_92])] := Hold.setB H33 22 rfl b99 c99 rfl
      clear H33
      clear b99 c99
      refine re (sq (sq ?_))
      refine gen (fun ρ => ρ 4 = .bool false ∧ ρ 6 = .pointer (some ⟨g6, 0, none⟩) ∧ ρ 13 = .pointer (some ⟨g13, 0, none⟩) ∧ True) ⟨z4, z6, rfl, trivial⟩ ?_
      rintro ρ ⟨z4, z6, z13, -⟩
      have b102 : B w99 g13 49 ([a_92, b_92]) := Hold.blk H34 22 rfl
      have b103 : B w99 g6 49 ([a_9, b_9]) := Hold.blk H34 11 rfl
      obtain ⟨_, R106⟩ : ∃ F, Kd.R u8 w99 F a_92 ((dcD xs ps cs).1) := Hold.row H34 20 rfl
      obtain ⟨_, R107⟩ : ∃ F, Kd.R kW w99 F b_92 ((dcD xs ps cs).2) := Hold.row H34 21 rfl
      obtain ⟨_, R108⟩ : ∃ F, Kd.R u8 w99 F a_9 ((dcD xs ps cs).1) := Hold.row H34 9 rfl
      obtain ⟨_, R109⟩ : ∃ F, Kd.R kW w99 F b_9 ((dcD xs ps cs).2) := Hold.row H34 10 rfl
      refine rg (r (lab [a_92, b_92] Try.underlying49 rfl ti49 z13 b102 rfl rfl) (r (lab [a_9, b_9] Try.underlying49 rfl ti49 z6 b103 rfl rfl) (cl go41 (eqDisk R106 R107 R108 R109 (by first | assumption | omega | (simp; omega)) (by first | assumption | omega | (simp; omega)) (by assumption)) (ac rfl (ac rfl an)) ?_)))
      rintro r wq104 ⟨rfl, cq104⟩
      have H35 : Hold w [] wq104 [rR u8 5 a_30 (marks 1 ((dcD xs ps cs).1).length), rR kW 112 b_30 (mkW (1 + ((dcD xs ps cs).1).length) ((dcD xs ps cs).2)), rR i64 2 r27 (marks8 (1 + (xs.length : Int) + (szW ps : Int)) cs.length), rR u8 5 a_20 (marks 1 xs.length), rR kW 112 b_20 (mkW (1 + xs.length) ps), rB g2 74 ([v, u]), rR u8 5 a_5 xs, rR kW 112 b_5 ps, rR i64 2 r7 cs, rR u8 5 a_9 ((dcD xs ps cs).1), rR kW 112 b_9 ((dcD xs ps cs).2), rB g6 49 ([a_9, b_9]), rB g7 49 ([a_20, b_20]), rB g9 49 ([a_30, b_30]), rR u8 5 a_52 xs, rR kW 112 b_52 ps, rR i64 2 r60 cs, rR u8 5 a_88 xs, rR kW 112 b_88 ps, rR i64 2 r90 cs, rR u8 5 a_92 ((dcD xs ps cs).1), rR kW 112 b_92 ((dcD xs ps cs).2), rB g13 49 ([a_92, b_92])] := Hold.t H34 cq104
      clear H34
      clear cq104
      refine r (nt rfl) (re ?_)
      refine cf ((rfl : _ = Value.bool (!(decide (((dcD xs ps cs).1, (dcD xs ps cs).2) = ((dcD xs ps cs).1, (dcD xs ps cs).2))))).trans (congrArg Value.bool (show (!(decide (((dcD xs ps cs).1, (dcD xs ps cs).2) = ((dcD xs ps cs).1, (dcD xs ps cs).2)))) = false from (by rw [decide_eq_true rfl]; rfl)))) ?_
      refine sk (sq (rg (r (sa rfl) (re (rt ?_)))))
      exact fin1 (v := .bool true) Try.results22 rfl ⟨rfl, Hold.ch H35⟩
end Go.Proofs.Ytgpcanjmgdmdhaa
