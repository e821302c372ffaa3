/-
  SEVERAL TEXTS OF MY OWN IN ONE: 109, 110, 111, 112, 113, Open, Head. No condition.
-/
import Derived.Test.YtanfhikfeabidaaGreatDoorM7
import Derived.Test.YtanfhikfeabidaaGreatDoorM1
import Derived.ProofKit
import Derived.SizedLaws
import Derived.Deep.Slices
import Derived.Test.YtanfhikfeabidaaGreatDoorRows
import Derived.KernelRfl
namespace Go.Proofs.YtanfhikfeabidaaGreatDoor
open Go Go.Eng
set_option maxRecDepth 100000
set_option maxHeartbeats 4000000
set_option linter.unusedVariables false
set_option linter.unusedSimpArgs false
theorem Hold.engO {w0 w : World} {F0 : List Nat} {Δ : List Rs} {ge gp gw gl gk : Nat} {s b : Int} {J : St → Prop} (H : Hold w0 F0 w (rEng ge gp gw gl gk s b J :: Δ)) : ∃ z, J z ∧ Hold w0 F0 w (enL ge gp gw gl gk s b z ++ Δ) := by
  obtain ⟨z, H⟩ := Hold.exe H
  obtain ⟨hJ, H⟩ := Hold.facte H
  exact ⟨z, hJ, Hold.rLe H⟩
theorem impl_Run {w : World} {F G G2 : List Nat} {dv0 wv0 cv : Value} {s b : Int} {J : Nat → St → Prop} {A : Nat → Int × ByteArray} {C : List (Int × ByteArray × ByteArray)} (hx : u8.R w F dv0 (fmX s b)) (hp : kW.R w G wv0 ([] : List Wr)) (hg : geo s b) (hc : kCal.R w G2 cv C) (lc : C.length ≤ 1000)
    (hJ : ∀ gd tv, J 0 (⟨gd, tv, 0, 1, -1, 0, readD (fmX s b) [], List.replicate (s * b).toNat (0, false), [], [], []⟩ : St))
    (hcall : ∀ (ge gp gw gl gk i : Nat) (hi : i < C.length) (w1 : World) (F1 : List Nat), Hs w1 [rEng ge gp gw gl gk s b (J i)] F1 → F1.Nodup → Ret Tryz.prog 34 #[.pointer (some ⟨ge, 0, none⟩), .agg #[.int .i64 C[i].1, .string C[i].2.1, .string C[i].2.2, .int .i64 0]] w1 (fun r w' => r = ansV (A i).1 (A i).2 ∧ Hold w1 F1 w' [rEng ge gp gw gl gk s b (J (i + 1))])) :
    Ret Tryz.prog 6 #[.agg #[dv0, wv0], .agg #[.int .i64 s, .int .i64 b], cv, .int .i64 (-1)] w (fun r w' => ∃ av o d1 d2, r = .agg #[.int .i64 0, .bool false, av, .int .i64 o, d1, d2] ∧ (d1.oneCell' = true ∧ d2.oneCell' = true) ∧ Hold w [] w' [rR kAns 42 av ((List.range C.length).map A)]) := by
  refine enter Tryz.func6 rfl Tryz.ntmps6 (by rfl) (by rfl) ?_
  have H0 : Hold w [] w [] := Hold.start w
  refine sq (rg (ef (xbx (t := 33) rfl rfl) ?_))
  rintro _ w1 ⟨g4, e1, rfl, -, b1, c1⟩
  have H1 : Hold w [] w1 [rB g4 33 ([dv0, wv0])] := Hold.newB H0 e1 b1 c1
  clear H0
  clear e1 b1 c1
  refine ef (xbx (t := 25) rfl rfl) ?_
  rintro _ w2 ⟨g5, e2, rfl, -, b2, c2⟩
  have H2 : Hold w [] w2 [rB g4 33 ([dv0, wv0]), rB g5 25 ([.int .i64 s, .int .i64 b])] := Hold.newB H1 e2 b2 c2
  clear H1
  clear e2 b2 c2
  refine ef (xbx (t := 2) rfl (cel1 rfl)) ?_
  rintro _ w3 ⟨g7, e3, rfl, -, b3, c3⟩
  have H3 : Hold w [] w3 [rB g4 33 ([dv0, wv0]), rB g5 25 ([.int .i64 s, .int .i64 b]), rB g7 2 ([.int .i64 (-1)])] := Hold.newB H2 e3 b3 c3
  clear H2
  clear e3 b3 c3
  refine ef (xal ti35) ?_
  rintro _ w4 ⟨g8, e4, rfl, -, b4, c4⟩
  have H4 : Hold w [] w4 [rB g4 33 ([dv0, wv0]), rB g5 25 ([.int .i64 s, .int .i64 b]), rB g7 2 ([.int .i64 (-1)]), rB g8 35 ([.int .i64 0, .bool false, .slice none 0 0, .int .i64 0, .slice none 0 0, .slice none 0 0])] := Hold.newB H3 e4 b4 c4
  clear H3
  clear e4 b4 c4
  refine re (sq (sq (rg (r (mv rfl) (r (ln Tryz.underlying26 rfl ((hc.t (Hold.ch H4)))) (r (bi rfl rfl rfl) (re ?_)))))))
  refine cf ((rfl : _ = Value.bool (decide (1000 < (C.length : Int)))).trans (congrArg Value.bool (show (decide (1000 < (C.length : Int))) = false from (decide_eq_false (by omega))))) ?_
  have b5 : B w4 g4 33 ([dv0, wv0]) := Hold.blk H4 0 rfl
  have b6 : B w4 g5 25 ([.int .i64 s, .int .i64 b]) := Hold.blk H4 1 rfl
  refine sk (sq (rg (r (lab [dv0, wv0] Tryz.underlying33 rfl ti33 rfl b5 rfl rfl) (r (lab [.int .i64 s, .int .i64 b] Tryz.underlying25 rfl ti25 rfl b6 rfl rfl) (cl go8 (mt_mount (hx.t (Hold.ch H4)) (hp.t (Hold.ch H4)) hg) (ac rfl (ac rfl an)) ?_)))))
  rintro r wm ⟨gm, gp, tv, iv, rfl, Hm⟩
  have H5 : Hold w [] wm [rB g4 33 ([dv0, wv0]), rB g5 25 ([.int .i64 s, .int .i64 b]), rB g7 2 ([.int .i64 (-1)]), rB g8 35 ([.int .i64 0, .bool false, .slice none 0 0, .int .i64 0, .slice none 0 0, .slice none 0 0]), rB gm 80 ([.pointer (some ⟨gp, 0, none⟩), .int .i64 s, .int .i64 b, .int .i64 (s * b), .int .i64 (tabs s b), .int .i64 (logs s b), .int .i64 (logs s b + s * b), .int .i64 (s * b - 2 * b), .int .i64 1, tv, iv, .slice none 0 0]), rPl gp (logs s b + s * b) (readD (fmX s b) []), rR kE 115 tv (List.replicate (s * b).toNat (0, false))] := Hold.news H4 Hm
  clear H4
  clear Hm
  refine r (mv rfl) (r (xt rfl rfl) (r (xt rfl rfl) (r (sa rfl) (r (sa rfl) (re (sq (sq ?_)))))))
  refine gen (fun ρ => ρ 2 = cv ∧ ρ 7 = .pointer (some ⟨g7, 0, none⟩) ∧ ρ 8 = .pointer (some ⟨g8, 0, none⟩) ∧ ρ 9 = .pointer (some ⟨gm, 0, none⟩) ∧ ρ 10 = .int .i64 0 ∧ True) ⟨rfl, rfl, rfl, rfl, rfl, trivial⟩ ?_
  rintro ρ ⟨z2, z7, z8, z9, z10, -⟩
  refine rg (r (mv z10) (r (Rn.cast (v' := .bool false) (bi rfl rfl rfl) (congrArg Value.bool (by simp))) (re (cf rfl (sk ?_)))))
  obtain ⟨_, R8⟩ : ∃ F, Kd.R kE wm F tv (List.replicate (s * b).toNat (0, false)) := Hold.row H5 6 rfl
  have ho : tv.oneCell' = true := (R8).oneCell
  have b10 : B wm gm 80 ([.pointer (some ⟨gp, 0, none⟩), .int .i64 s, .int .i64 b, .int .i64 (s * b), .int .i64 (tabs s b), .int .i64 (logs s b), .int .i64 (logs s b + s * b), .int .i64 (s * b - 2 * b), .int .i64 1, tv, iv, .slice none 0 0]) := Hold.blk H5 4 rfl
  refine sq (rg (r (mv z9) (cl go9 (mt_engine b10 ho) (ac rfl an) ?_)))
  rintro r we ⟨ge, gw, gd, rfl, He⟩
  have H6 : Hold w [] we [rB g4 33 ([dv0, wv0]), rB g5 25 ([.int .i64 s, .int .i64 b]), rB g7 2 ([.int .i64 (-1)]), rB g8 35 ([.int .i64 0, .bool false, .slice none 0 0, .int .i64 0, .slice none 0 0, .slice none 0 0]), rB gm 80 ([.pointer (some ⟨gp, 0, none⟩), .int .i64 s, .int .i64 b, .int .i64 (s * b), .int .i64 (tabs s b), .int .i64 (logs s b), .int .i64 (logs s b + s * b), .int .i64 (s * b - 2 * b), .int .i64 1, tv, iv, .slice none 0 0]), rPl gp (logs s b + s * b) (readD (fmX s b) []), rR kE 115 tv (List.replicate (s * b).toNat (0, false)), rB ge 60 ([.pointer (some ⟨gp, 0, none⟩), .int .i64 s, .int .i64 b, .int .i64 (s * b), .int .i64 (tabs s b), .int .i64 (logs s b), .int .i64 (logs s b + s * b), .int .i64 (s * b - 2 * b), .map (some gw), .map (some gd), tv, .int .i64 1, .int .i64 (-1), .int .i64 0, .int .i64 0, .func (.func 31) #[] #[]]), rMW gw ([]), rMW gd ([])] := Hold.news H5 He
  clear H5
  clear He
  refine ef (xal ti47) ?_
  rintro _ w11 ⟨g11, e11, rfl, -, b11, c11⟩
  have H7 : Hold w [] w11 [rB g4 33 ([dv0, wv0]), rB g5 25 ([.int .i64 s, .int .i64 b]), rB g7 2 ([.int .i64 (-1)]), rB g8 35 ([.int .i64 0, .bool false, .slice none 0 0, .int .i64 0, .slice none 0 0, .slice none 0 0]), rB gm 80 ([.pointer (some ⟨gp, 0, none⟩), .int .i64 s, .int .i64 b, .int .i64 (s * b), .int .i64 (tabs s b), .int .i64 (logs s b), .int .i64 (logs s b + s * b), .int .i64 (s * b - 2 * b), .int .i64 1, tv, iv, .slice none 0 0]), rPl gp (logs s b + s * b) (readD (fmX s b) []), rR kE 115 tv (List.replicate (s * b).toNat (0, false)), rB ge 60 ([.pointer (some ⟨gp, 0, none⟩), .int .i64 s, .int .i64 b, .int .i64 (s * b), .int .i64 (tabs s b), .int .i64 (logs s b), .int .i64 (logs s b + s * b), .int .i64 (s * b - 2 * b), .map (some gw), .map (some gd), tv, .int .i64 1, .int .i64 (-1), .int .i64 0, .int .i64 0, .func (.func 31) #[] #[]]), rMW gw ([]), rMW gd ([]), rB g11 47 ([.pointer none])] := Hold.newB H6 e11 b11 c11
  clear H6
  clear e11 b11 c11
  have b12 : B w11 g11 47 ([.pointer none]) := Hold.blk H7 10 rfl
  refine ef0 (xst (vs := [.pointer (some ⟨ge, 0, none⟩)]) ti47 rfl rfl (cel1 rfl) b12 rfl (Nat.le_of_ble_eq_true rfl) (one_all rfl)) ?_
  rintro w13 ⟨-, b13, c13⟩
  have H8 : Hold w [] w13 [rB g4 33 ([dv0, wv0]), rB g5 25 ([.int .i64 s, .int .i64 b]), rB g7 2 ([.int .i64 (-1)]), rB g8 35 ([.int .i64 0, .bool false, .slice none 0 0, .int .i64 0, .slice none 0 0, .slice none 0 0]), rB gm 80 ([.pointer (some ⟨gp, 0, none⟩), .int .i64 s, .int .i64 b, .int .i64 (s * b), .int .i64 (tabs s b), .int .i64 (logs s b), .int .i64 (logs s b + s * b), .int .i64 (s * b - 2 * b), .int .i64 1, tv, iv, .slice none 0 0]), rPl gp (logs s b + s * b) (readD (fmX s b) []), rR kE 115 tv (List.replicate (s * b).toNat (0, false)), rB ge 60 ([.pointer (some ⟨gp, 0, none⟩), .int .i64 s, .int .i64 b, .int .i64 (s * b), .int .i64 (tabs s b), .int .i64 (logs s b), .int .i64 (logs s b + s * b), .int .i64 (s * b - 2 * b), .map (some gw), .map (some gd), tv, .int .i64 1, .int .i64 (-1), .int .i64 0, .int .i64 0, .func (.func 31) #[] #[]]), rMW gw ([]), rMW gd ([]), rB g11 47 ([.pointer (some ⟨ge, 0, none⟩)])] := Hold.setB H7 10 rfl b13 c13 rfl
  clear H7
  clear b13 c13
  have b14 : B w13 g11 47 ([.pointer (some ⟨ge, 0, none⟩)]) := Hold.blk H8 10 rfl
  have b15 : B w13 ge 60 ([.pointer (some ⟨gp, 0, none⟩), .int .i64 s, .int .i64 b, .int .i64 (s * b), .int .i64 (tabs s b), .int .i64 (logs s b), .int .i64 (logs s b + s * b), .int .i64 (s * b - 2 * b), .map (some gw), .map (some gd), tv, .int .i64 1, .int .i64 (-1), .int .i64 0, .int .i64 0, .func (.func 31) #[] #[]]) := Hold.blk H8 7 rfl
  refine re (sq (rg (r (ldb Tryz.underlying47 rfl rfl b14 rfl) (r (mf (vs := []) (cs := [.pointer (some ⟨g7, 0, none⟩), .pointer (some ⟨g11, 0, none⟩)]) an (ac z7 (ac rfl an))) (r (nck rfl) (r (fa Tryz.underlying60 rfl ti1 rfl rfl) (ef0 (xst (vs := [.func (.func 10) #[] [.pointer (some ⟨g7, 0, none⟩), .pointer (some ⟨g11, 0, none⟩)].toArray]) ti1 rfl rfl (cel1 rfl) b15 rfl (Nat.le_of_ble_eq_true rfl) (one_all rfl)) ?_)))))))
  rintro w16 ⟨-, b16, c16⟩
  have H9 : Hold w [] w16 [rB g4 33 ([dv0, wv0]), rB g5 25 ([.int .i64 s, .int .i64 b]), rB g7 2 ([.int .i64 (-1)]), rB g8 35 ([.int .i64 0, .bool false, .slice none 0 0, .int .i64 0, .slice none 0 0, .slice none 0 0]), rB gm 80 ([.pointer (some ⟨gp, 0, none⟩), .int .i64 s, .int .i64 b, .int .i64 (s * b), .int .i64 (tabs s b), .int .i64 (logs s b), .int .i64 (logs s b + s * b), .int .i64 (s * b - 2 * b), .int .i64 1, tv, iv, .slice none 0 0]), rPl gp (logs s b + s * b) (readD (fmX s b) []), rR kE 115 tv (List.replicate (s * b).toNat (0, false)), rB ge 60 ((eC s b gp gw gd tv 1 (-1) 0 0 g7 g11)), rMW gw ([]), rMW gd ([]), rB g11 47 ([.pointer (some ⟨ge, 0, none⟩)])] := Hold.setB H8 7 rfl b16 c16 rfl
  clear H8
  clear b16 c16
  refine re (sq (rg (ef (xal ti35) ?_)))
  rintro _ w17 ⟨g12, e17, rfl, -, b17, c17⟩
  have H10 : Hold w [] w17 [rB g4 33 ([dv0, wv0]), rB g5 25 ([.int .i64 s, .int .i64 b]), rB g7 2 ([.int .i64 (-1)]), rB g8 35 ([.int .i64 0, .bool false, .slice none 0 0, .int .i64 0, .slice none 0 0, .slice none 0 0]), rB gm 80 ([.pointer (some ⟨gp, 0, none⟩), .int .i64 s, .int .i64 b, .int .i64 (s * b), .int .i64 (tabs s b), .int .i64 (logs s b), .int .i64 (logs s b + s * b), .int .i64 (s * b - 2 * b), .int .i64 1, tv, iv, .slice none 0 0]), rPl gp (logs s b + s * b) (readD (fmX s b) []), rR kE 115 tv (List.replicate (s * b).toNat (0, false)), rB ge 60 ((eC s b gp gw gd tv 1 (-1) 0 0 g7 g11)), rMW gw ([]), rMW gd ([]), rB g11 47 ([.pointer (some ⟨ge, 0, none⟩)]), rB g12 35 ([.int .i64 0, .bool false, .slice none 0 0, .int .i64 0, .slice none 0 0, .slice none 0 0])] := Hold.newB H9 e17 b17 c17
  clear H9
  clear e17 b17 c17
  refine re ?_
  have H11 : Hold w [] w17 [rB g4 33 ([dv0, wv0]), rB g5 25 ([.int .i64 s, .int .i64 b]), rB g7 2 ([.int .i64 (-1)]), rB g8 35 ([.int .i64 0, .bool false, .slice none 0 0, .int .i64 0, .slice none 0 0, .slice none 0 0]), rB gm 80 ([.pointer (some ⟨gp, 0, none⟩), .int .i64 s, .int .i64 b, .int .i64 (s * b), .int .i64 (tabs s b), .int .i64 (logs s b), .int .i64 (logs s b + s * b), .int .i64 (s * b - 2 * b), .int .i64 1, tv, iv, .slice none 0 0]), rPl gp (logs s b + s * b) (readD (fmX s b) []), rR kE 115 tv (List.replicate (s * b).toNat (0, false)), rB ge 60 ((eC s b gp gw gd tv 1 (-1) 0 0 g7 g11)), rMW gw ([]), rMW gd ([]), rB g11 47 ([.pointer (some ⟨ge, 0, none⟩)]), rB g12 35 ([.int .i64 0, .bool false, .slice none 0 0, .int .i64 0, .slice none 0 0, .slice none 0 0]), rR kAns 42 (.slice none 0 0) ([])] := Hold.nilrow kAns 42 H10
  clear H10
  have H12 : Hold w [] w17 [rPool 2 ([]), rB g4 33 ([dv0, wv0]), rB g5 25 ([.int .i64 s, .int .i64 b]), rB g7 2 ([.int .i64 (-1)]), rB g8 35 ([.int .i64 0, .bool false, .slice none 0 0, .int .i64 0, .slice none 0 0, .slice none 0 0]), rB gm 80 ([.pointer (some ⟨gp, 0, none⟩), .int .i64 s, .int .i64 b, .int .i64 (s * b), .int .i64 (tabs s b), .int .i64 (logs s b), .int .i64 (logs s b + s * b), .int .i64 (s * b - 2 * b), .int .i64 1, tv, iv, .slice none 0 0]), rPl gp (logs s b + s * b) (readD (fmX s b) []), rR kE 115 tv (List.replicate (s * b).toNat (0, false)), rB ge 60 ((eC s b gp gw gd tv 1 (-1) 0 0 g7 g11)), rMW gw ([]), rMW gd ([]), rB g11 47 ([.pointer (some ⟨ge, 0, none⟩)]), rB g12 35 ([.int .i64 0, .bool false, .slice none 0 0, .int .i64 0, .slice none 0 0, .slice none 0 0]), rR kAns 42 (.slice none 0 0) ([])] := Hold.pool0 2 H11
  clear H11
  have H13 : Hold w [] w17 [rB ge 60 ((eC s b gp gw gd tv 1 (-1) 0 0 g7 g11)), rPl gp (logs s b + s * b) (readD (fmX s b) []), rR kE 115 tv (List.replicate (s * b).toNat (0, false)), rMW gw ([]), rMW gd ([]), rPool 2 ([]), rB g7 2 ([.int .i64 (-1)]), rB g4 33 ([dv0, wv0]), rB g5 25 ([.int .i64 s, .int .i64 b]), rB g8 35 ([.int .i64 0, .bool false, .slice none 0 0, .int .i64 0, .slice none 0 0, .slice none 0 0]), rB gm 80 ([.pointer (some ⟨gp, 0, none⟩), .int .i64 s, .int .i64 b, .int .i64 (s * b), .int .i64 (tabs s b), .int .i64 (logs s b), .int .i64 (logs s b + s * b), .int .i64 (s * b - 2 * b), .int .i64 1, tv, iv, .slice none 0 0]), rB g11 47 ([.pointer (some ⟨ge, 0, none⟩)]), rB g12 35 ([.int .i64 0, .bool false, .slice none 0 0, .int .i64 0, .slice none 0 0, .slice none 0 0]), rR kAns 42 (.slice none 0 0) ([])] := Hold.re H12 [8, 6, 7, 9, 10, 0, 3, 1, 2, 4, 5, 11, 12, 13] (by kernel_rfl) (by rfl)
  clear H12
  have H14 : Hold w [] w17 [rEng ge gp gw g7 g11 s b (J 0), rB g4 33 ([dv0, wv0]), rB g5 25 ([.int .i64 s, .int .i64 b]), rB g8 35 ([.int .i64 0, .bool false, .slice none 0 0, .int .i64 0, .slice none 0 0, .slice none 0 0]), rB gm 80 ([.pointer (some ⟨gp, 0, none⟩), .int .i64 s, .int .i64 b, .int .i64 (s * b), .int .i64 (tabs s b), .int .i64 (logs s b), .int .i64 (logs s b + s * b), .int .i64 (s * b - 2 * b), .int .i64 1, tv, iv, .slice none 0 0]), rB g11 47 ([.pointer (some ⟨ge, 0, none⟩)]), rB g12 35 ([.int .i64 0, .bool false, .slice none 0 0, .int .i64 0, .slice none 0 0, .slice none 0 0]), rR kAns 42 (.slice none 0 0) ([])] := Hold.engI (⟨gd, tv, 0, 1, -1, 0, readD (fmX s b) [], List.replicate (s * b).toNat (0, false), [], [], []⟩ : St) (hJ gd tv) H13
  clear H13
  refine sq ?_
  refine gen (fun ρ => ρ 2 = cv ∧ ρ 8 = .pointer (some ⟨g8, 0, none⟩) ∧ ρ 11 = .pointer (some ⟨g11, 0, none⟩) ∧ ρ 12 = .pointer (some ⟨g12, 0, none⟩) ∧ True) ⟨z2, z8, rfl, rfl, trivial⟩ ?_
  rintro ρ ⟨z2, z8, z11, z12, -⟩
  have b18 : B w17 g11 47 ([.pointer (some ⟨ge, 0, none⟩)]) := Hold.blk H14 5 rfl
  have H15 : Hold w [] w17 [rEng ge gp gw g7 g11 s b (J 0), rB g12 35 ([.int .i64 0, .bool false, .slice none 0 0, .int .i64 0, .slice none 0 0, .slice none 0 0]), rR kAns 42 (.slice none 0 0) ([]), rB g4 33 ([dv0, wv0]), rB g5 25 ([.int .i64 s, .int .i64 b]), rB g8 35 ([.int .i64 0, .bool false, .slice none 0 0, .int .i64 0, .slice none 0 0, .slice none 0 0]), rB gm 80 ([.pointer (some ⟨gp, 0, none⟩), .int .i64 s, .int .i64 b, .int .i64 (s * b), .int .i64 (tabs s b), .int .i64 (logs s b), .int .i64 (logs s b + s * b), .int .i64 (s * b - 2 * b), .int .i64 1, tv, iv, .slice none 0 0]), rB g11 47 ([.pointer (some ⟨ge, 0, none⟩)])] := Hold.re H14 [0, 6, 7, 1, 2, 3, 4, 5] (by kernel_rfl) (by rfl)
  clear H14
  obtain ⟨F19, hF19, n19, s19, K19⟩ := Hold.front (Γ := [rEng ge gp gw g7 g11 s b (J 0), rB g12 35 ([.int .i64 0, .bool false, .slice none 0 0, .int .i64 0, .slice none 0 0, .slice none 0 0]), rR kAns 42 (.slice none 0 0) ([])]) (Δ := [rB g4 33 ([dv0, wv0]), rB g5 25 ([.int .i64 s, .int .i64 b]), rB g8 35 ([.int .i64 0, .bool false, .slice none 0 0, .int .i64 0, .slice none 0 0, .slice none 0 0]), rB gm 80 ([.pointer (some ⟨gp, 0, none⟩), .int .i64 s, .int .i64 b, .int .i64 (s * b), .int .i64 (tabs s b), .int .i64 (logs s b), .int .i64 (logs s b + s * b), .int .i64 (s * b - 2 * b), .int .i64 1, tv, iv, .slice none 0 0]), rB g11 47 ([.pointer (some ⟨ge, 0, none⟩)])]) H15
  refine rg (r (ldb Tryz.underlying47 rfl z11 b18 rfl) (r (mv z2) (r (mf (vs := []) (cs := [.pointer (some ⟨g12, 0, none⟩)]) an (ac z12 an)) (cl go11 (eng_calls (J := J) (A := A) hF19 n19 (hc.t (Hold.ch H15)) (dis_of0 hc.lt s19) lc (hcall ge gp gw g7 g11)) (ac rfl (ac rfl (ac rfl an))) ?_))))
  rintro r wc ⟨rfl, av', Hc⟩
  have H16 : Hold w [] wc [rEng ge gp gw g7 g11 s b (J C.length), rB g12 35 ([.int .i64 0, .bool false, av', .int .i64 0, .slice none 0 0, .slice none 0 0]), rR kAns 42 av' ((List.range C.length).map A), rB g4 33 ([dv0, wv0]), rB g5 25 ([.int .i64 s, .int .i64 b]), rB g8 35 ([.int .i64 0, .bool false, .slice none 0 0, .int .i64 0, .slice none 0 0, .slice none 0 0]), rB gm 80 ([.pointer (some ⟨gp, 0, none⟩), .int .i64 s, .int .i64 b, .int .i64 (s * b), .int .i64 (tabs s b), .int .i64 (logs s b), .int .i64 (logs s b + s * b), .int .i64 (s * b - 2 * b), .int .i64 1, tv, iv, .slice none 0 0]), rB g11 47 ([.pointer (some ⟨ge, 0, none⟩)])] := Hold.call K19 Hc
  clear H15
  clear K19 hF19 n19 s19
  clear Hc
  have b20 : B wc g12 35 ([.int .i64 0, .bool false, av', .int .i64 0, .slice none 0 0, .slice none 0 0]) := Hold.blk H16 1 rfl
  refine r (fa Tryz.underlying35 rfl ti4 rfl z12) (ef0 (xst (vs := [.bool false]) ti4 rfl rfl (cel1 rfl) b20 rfl (Nat.le_of_ble_eq_true rfl) (one_all rfl)) ?_)
  rintro w21 ⟨-, b21, c21⟩
  have H17 : Hold w [] w21 [rEng ge gp gw g7 g11 s b (J C.length), rB g12 35 ([.int .i64 0, .bool false, av', .int .i64 0, .slice none 0 0, .slice none 0 0]), rR kAns 42 av' ((List.range C.length).map A), rB g4 33 ([dv0, wv0]), rB g5 25 ([.int .i64 s, .int .i64 b]), rB g8 35 ([.int .i64 0, .bool false, .slice none 0 0, .int .i64 0, .slice none 0 0, .slice none 0 0]), rB gm 80 ([.pointer (some ⟨gp, 0, none⟩), .int .i64 s, .int .i64 b, .int .i64 (s * b), .int .i64 (tabs s b), .int .i64 (logs s b), .int .i64 (logs s b + s * b), .int .i64 (s * b - 2 * b), .int .i64 1, tv, iv, .slice none 0 0]), rB g11 47 ([.pointer (some ⟨ge, 0, none⟩)])] := Hold.setB H16 1 rfl b21 c21 rfl
  clear H16
  clear b21 c21
  refine re ?_
  obtain ⟨z, hz, H18⟩ := Hold.engO H17
  replace H18 : Hold w [] w21 [rB ge 60 ((eC s b gp gw z.gd z.tv z.q z.a z.us z.op g7 g11)), rPl gp (logs s b + s * b) z.rdf, rR kE 115 z.tv z.tab, rMW gw (z.wk.map kfP), rMW z.gd (z.du.map kfP), rPool 2 z.pl, rB g7 2 ([.int .i64 (-1)]), rB g12 35 ([.int .i64 0, .bool false, av', .int .i64 0, .slice none 0 0, .slice none 0 0]), rR kAns 42 av' ((List.range C.length).map A), rB g4 33 ([dv0, wv0]), rB g5 25 ([.int .i64 s, .int .i64 b]), rB g8 35 ([.int .i64 0, .bool false, .slice none 0 0, .int .i64 0, .slice none 0 0, .slice none 0 0]), rB gm 80 ([.pointer (some ⟨gp, 0, none⟩), .int .i64 s, .int .i64 b, .int .i64 (s * b), .int .i64 (tabs s b), .int .i64 (logs s b), .int .i64 (logs s b + s * b), .int .i64 (s * b - 2 * b), .int .i64 1, tv, iv, .slice none 0 0]), rB g11 47 ([.pointer (some ⟨ge, 0, none⟩)])] := H18
  clear H17
  have H19 : Hold w [] w21 [rPl gp (logs s b + s * b) z.rdf, rB ge 60 ((eC s b gp gw z.gd z.tv z.q z.a z.us z.op g7 g11)), rR kE 115 z.tv z.tab, rMW gw (z.wk.map kfP), rMW z.gd (z.du.map kfP), rPool 2 z.pl, rB g7 2 ([.int .i64 (-1)]), rB g12 35 ([.int .i64 0, .bool false, av', .int .i64 0, .slice none 0 0, .slice none 0 0]), rR kAns 42 av' ((List.range C.length).map A), rB g4 33 ([dv0, wv0]), rB g5 25 ([.int .i64 s, .int .i64 b]), rB g8 35 ([.int .i64 0, .bool false, .slice none 0 0, .int .i64 0, .slice none 0 0, .slice none 0 0]), rB gm 80 ([.pointer (some ⟨gp, 0, none⟩), .int .i64 s, .int .i64 b, .int .i64 (s * b), .int .i64 (tabs s b), .int .i64 (logs s b), .int .i64 (logs s b + s * b), .int .i64 (s * b - 2 * b), .int .i64 1, tv, iv, .slice none 0 0]), rB g11 47 ([.pointer (some ⟨ge, 0, none⟩)])] := Hold.re H18 [1, 0, 2, 3, 4, 5, 6, 7, 8, 9, 10, 11, 12, 13] (by kernel_rfl) (by rfl)
  clear H18
  obtain ⟨dv, wv, mg, xs, ps, hDk, H20⟩ := Hold.plE H19
  replace H20 : Hold w [] w21 [rB gp 98 ([dv, wv, .map (some mg)]), rR u8 5 dv xs, rR kW 100 wv ps, rM mg (yng ps), rB ge 60 ((eC s b gp gw z.gd z.tv z.q z.a z.us z.op g7 g11)), rR kE 115 z.tv z.tab, rMW gw (z.wk.map kfP), rMW z.gd (z.du.map kfP), rPool 2 z.pl, rB g7 2 ([.int .i64 (-1)]), rB g12 35 ([.int .i64 0, .bool false, av', .int .i64 0, .slice none 0 0, .slice none 0 0]), rR kAns 42 av' ((List.range C.length).map A), rB g4 33 ([dv0, wv0]), rB g5 25 ([.int .i64 s, .int .i64 b]), rB g8 35 ([.int .i64 0, .bool false, .slice none 0 0, .int .i64 0, .slice none 0 0, .slice none 0 0]), rB gm 80 ([.pointer (some ⟨gp, 0, none⟩), .int .i64 s, .int .i64 b, .int .i64 (s * b), .int .i64 (tabs s b), .int .i64 (logs s b), .int .i64 (logs s b + s * b), .int .i64 (s * b - 2 * b), .int .i64 1, tv, iv, .slice none 0 0]), rB g11 47 ([.pointer (some ⟨ge, 0, none⟩)])] := H20
  clear H19
  have hlx := hDk.V.len2
  have hnp := hDk.np
  refine sq ?_
  refine rde mixed ?_
  intro w22 c22
  have H21 : Hold w [] w22 [rB gp 98 ([dv, wv, .map (some mg)]), rR u8 5 dv xs, rR kW 100 wv ps, rM mg (yng ps), rB ge 60 ((eC s b gp gw z.gd z.tv z.q z.a z.us z.op g7 g11)), rR kE 115 z.tv z.tab, rMW gw (z.wk.map kfP), rMW z.gd (z.du.map kfP), rPool 2 z.pl, rB g7 2 ([.int .i64 (-1)]), rB g12 35 ([.int .i64 0, .bool false, av', .int .i64 0, .slice none 0 0, .slice none 0 0]), rR kAns 42 av' ((List.range C.length).map A), rB g4 33 ([dv0, wv0]), rB g5 25 ([.int .i64 s, .int .i64 b]), rB g8 35 ([.int .i64 0, .bool false, .slice none 0 0, .int .i64 0, .slice none 0 0, .slice none 0 0]), rB gm 80 ([.pointer (some ⟨gp, 0, none⟩), .int .i64 s, .int .i64 b, .int .i64 (s * b), .int .i64 (tabs s b), .int .i64 (logs s b), .int .i64 (logs s b + s * b), .int .i64 (s * b - 2 * b), .int .i64 1, tv, iv, .slice none 0 0]), rB g11 47 ([.pointer (some ⟨ge, 0, none⟩)])] := Hold.t H20 c22
  clear H20
  clear c22
  have H22 : Hold w [] w22 [rB g12 35 ([.int .i64 0, .bool false, av', .int .i64 0, .slice none 0 0, .slice none 0 0]), rB gp 98 ([dv, wv, .map (some mg)]), rR u8 5 dv xs, rR kW 100 wv ps, rM mg (yng ps), rB ge 60 ((eC s b gp gw z.gd z.tv z.q z.a z.us z.op g7 g11)), rR kE 115 z.tv z.tab, rMW gw (z.wk.map kfP), rMW z.gd (z.du.map kfP), rPool 2 z.pl, rB g7 2 ([.int .i64 (-1)]), rR kAns 42 av' ((List.range C.length).map A), rB g4 33 ([dv0, wv0]), rB g5 25 ([.int .i64 s, .int .i64 b]), rB g8 35 ([.int .i64 0, .bool false, .slice none 0 0, .int .i64 0, .slice none 0 0, .slice none 0 0]), rB gm 80 ([.pointer (some ⟨gp, 0, none⟩), .int .i64 s, .int .i64 b, .int .i64 (s * b), .int .i64 (tabs s b), .int .i64 (logs s b), .int .i64 (logs s b + s * b), .int .i64 (s * b - 2 * b), .int .i64 1, tv, iv, .slice none 0 0]), rB g11 47 ([.pointer (some ⟨ge, 0, none⟩)])] := Hold.re H21 [10, 0, 1, 2, 3, 4, 5, 6, 7, 8, 9, 11, 12, 13, 14, 15, 16] (by kernel_rfl) (by rfl)
  clear H21
  obtain ⟨Fd23, hFd23, nd23, Kd23, Xd23, sd23⟩ := Hold.frontx (Γ := [rB g12 35 ([.int .i64 0, .bool false, av', .int .i64 0, .slice none 0 0, .slice none 0 0])]) (Δ := [rB gp 98 ([dv, wv, .map (some mg)]), rR u8 5 dv xs, rR kW 100 wv ps, rM mg (yng ps), rB ge 60 ((eC s b gp gw z.gd z.tv z.q z.a z.us z.op g7 g11)), rR kE 115 z.tv z.tab, rMW gw (z.wk.map kfP), rMW z.gd (z.du.map kfP), rPool 2 z.pl, rB g7 2 ([.int .i64 (-1)]), rR kAns 42 av' ((List.range C.length).map A), rB g4 33 ([dv0, wv0]), rB g5 25 ([.int .i64 s, .int .i64 b]), rB g8 35 ([.int .i64 0, .bool false, .slice none 0 0, .int .i64 0, .slice none 0 0, .slice none 0 0]), rB gm 80 ([.pointer (some ⟨gp, 0, none⟩), .int .i64 s, .int .i64 b, .int .i64 (s * b), .int .i64 (tabs s b), .int .i64 (logs s b), .int .i64 (logs s b + s * b), .int .i64 (s * b - 2 * b), .int .i64 1, tv, iv, .slice none 0 0]), rB g11 47 ([.pointer (some ⟨ge, 0, none⟩)])]) H22
  have H23d0 : Hold w22 Fd23 w22 [rB g12 35 ([.int .i64 0, .bool false, av', .int .i64 0, .slice none 0 0, .slice none 0 0])] := Hold.begin hFd23 nd23
  refine ⟨fun w' => Ch Fd23 w22 w', Ch.refl _ _, ?_⟩
  obtain ⟨_, ⟨rfl, b24⟩, x24⟩ := Xd23 15 (rB g11 47 ([.pointer (some ⟨ge, 0, none⟩)])) rfl
  obtain ⟨_, ⟨rfl, b25⟩, x25⟩ := Xd23 4 (rB ge 60 ((eC s b gp gw z.gd z.tv z.q z.a z.us z.op g7 g11))) rfl
  obtain ⟨_, ⟨rfl, b27⟩, x27⟩ := Xd23 0 (rB gp 98 ([dv, wv, .map (some mg)])) rfl
  obtain ⟨_, R28, x28⟩ := Xd23 1 (rR u8 5 dv xs) rfl
  replace R28 := Kd.W.R R28
  obtain ⟨_, R29, x29⟩ := Xd23 2 (rR kW 100 wv ps) rfl
  replace R29 := Kd.W.R R29
  refine edt 0 rfl (by kernel_rfl) (fun w' hS => ldb Tryz.underlying47 rfl z11 (hS.b b24 (x24 _ (by simp))) rfl) (edt 1 rfl (by kernel_rfl) (fun w' hS => nck rfl) (edt 2 rfl (by kernel_rfl) (fun w' hS => fa Tryz.underlying60 rfl ti2 rfl rfl) (edt 3 rfl (by kernel_rfl) (fun w' hS => ldb Tryz.underlying2 rfl rfl (hS.b b25 (x25 _ (by simp))) rfl) (edt 4 rfl (by kernel_rfl) (fun w' hS => ldb Tryz.underlying47 rfl z11 (hS.b b24 (x24 _ (by simp))) rfl) (edt 5 rfl (by kernel_rfl) (fun w' hS => nck rfl) (edt 6 rfl (by kernel_rfl) (fun w' hS => fa Tryz.underlying60 rfl ti49 rfl rfl) (edt 7 rfl (by kernel_rfl) (fun w' hS => ldb Tryz.underlying49 rfl rfl (hS.b b25 (x25 _ (by simp))) rfl) (edt 9 rfl (by kernel_rfl) (fun w' hS => fa Tryz.underlying35 rfl ti2 rfl z12) (ed1 8 (by kernel_rfl) <| euc rfl go13 (ac rfl an) (platter_disk ((Hold.ch H23d0).b b27 (x27 _ (by simp))) (R28.tt (Hold.ch H23d0) x28) (R29.tt (Hold.ch H23d0) x29) (by omega) (by omega) (fun x hx => by have := (hDk.V.ok x hx).2.2; omega)) ?_)))))))))
  rintro r wd ⟨d1, d2, rfl, Hd⟩
  have H23d : Hold w22 Fd23 wd [rB g12 35 ([.int .i64 0, .bool false, av', .int .i64 0, .slice none 0 0, .slice none 0 0]), rR u8 5 d1 xs, rR kW 100 d2 ps] := Hold.news H23d0 Hd
  clear H23d0
  clear Hd
  refine ⟨.inr (Hold.ch H23d), ?_⟩
  have b30 : B wd g12 35 ([.int .i64 0, .bool false, av', .int .i64 0, .slice none 0 0, .slice none 0 0]) := Hold.blk H23d 0 rfl
  refine ed1 10 (by kernel_rfl) <| euf0 rfl (xst (vs := [.int .i64 z.op]) ti2 rfl rfl (cel1 rfl) b30 rfl (Nat.le_of_ble_eq_true rfl) (one_all rfl)) ?_
  rintro w31 ⟨-, b31, c31⟩
  have H24d : Hold w22 Fd23 w31 [rB g12 35 ([.int .i64 0, .bool false, av', .int .i64 z.op, .slice none 0 0, .slice none 0 0]), rR u8 5 d1 xs, rR kW 100 d2 ps] := Hold.setB H23d 0 rfl b31 c31 rfl
  clear H23d
  clear b31 c31
  refine ⟨.inr (Hold.ch H24d), ?_⟩
  have H25 : Hold w [] w31 [rB g12 35 ([.int .i64 0, .bool false, av', .int .i64 z.op, .slice none 0 0, .slice none 0 0]), rR u8 5 d1 xs, rR kW 100 d2 ps, rB gp 98 ([dv, wv, .map (some mg)]), rR u8 5 dv xs, rR kW 100 wv ps, rM mg (yng ps), rB ge 60 ((eC s b gp gw z.gd z.tv z.q z.a z.us z.op g7 g11)), rR kE 115 z.tv z.tab, rMW gw (z.wk.map kfP), rMW z.gd (z.du.map kfP), rPool 2 z.pl, rB g7 2 ([.int .i64 (-1)]), rR kAns 42 av' ((List.range C.length).map A), rB g4 33 ([dv0, wv0]), rB g5 25 ([.int .i64 s, .int .i64 b]), rB g8 35 ([.int .i64 0, .bool false, .slice none 0 0, .int .i64 0, .slice none 0 0, .slice none 0 0]), rB gm 80 ([.pointer (some ⟨gp, 0, none⟩), .int .i64 s, .int .i64 b, .int .i64 (s * b), .int .i64 (tabs s b), .int .i64 (logs s b), .int .i64 (logs s b + s * b), .int .i64 (s * b - 2 * b), .int .i64 1, tv, iv, .slice none 0 0]), rB g11 47 ([.pointer (some ⟨ge, 0, none⟩)])] := Hold.call Kd23 H24d
  clear H24d H22
  have b32 : B w31 g12 35 ([.int .i64 0, .bool false, av', .int .i64 z.op, .slice none 0 0, .slice none 0 0]) := Hold.blk H25 0 rfl
  obtain ⟨_, R34⟩ : ∃ F, Kd.R kW w31 F d2 ps := Hold.row H25 2 rfl
  obtain ⟨_, R35⟩ : ∃ F, Kd.R u8 w31 F d1 xs := Hold.row H25 1 rfl
  refine edt 11 rfl (by kernel_rfl) (fun w' hS => fa Tryz.underlying35 rfl ti33 rfl z12) (ed1 12 (by kernel_rfl) <| euf0 rfl (xst (vs := [d1, d2]) ti33 rfl rfl rfl b32 rfl (Nat.le_of_ble_eq_true rfl) (oc (R35).oneCell (oc (R34).oneCell on))) ?_)
  rintro w33 ⟨-, b33, c33⟩
  have H26 : Hold w [] w33 [rB g12 35 ([.int .i64 0, .bool false, av', .int .i64 z.op, d1, d2]), rR u8 5 d1 xs, rR kW 100 d2 ps, rB gp 98 ([dv, wv, .map (some mg)]), rR u8 5 dv xs, rR kW 100 wv ps, rM mg (yng ps), rB ge 60 ((eC s b gp gw z.gd z.tv z.q z.a z.us z.op g7 g11)), rR kE 115 z.tv z.tab, rMW gw (z.wk.map kfP), rMW z.gd (z.du.map kfP), rPool 2 z.pl, rB g7 2 ([.int .i64 (-1)]), rR kAns 42 av' ((List.range C.length).map A), rB g4 33 ([dv0, wv0]), rB g5 25 ([.int .i64 s, .int .i64 b]), rB g8 35 ([.int .i64 0, .bool false, .slice none 0 0, .int .i64 0, .slice none 0 0, .slice none 0 0]), rB gm 80 ([.pointer (some ⟨gp, 0, none⟩), .int .i64 s, .int .i64 b, .int .i64 (s * b), .int .i64 (tabs s b), .int .i64 (logs s b), .int .i64 (logs s b + s * b), .int .i64 (s * b - 2 * b), .int .i64 1, tv, iv, .slice none 0 0]), rB g11 47 ([.pointer (some ⟨ge, 0, none⟩)])] := Hold.setB H25 0 rfl b33 c33 rfl
  clear H25
  clear b33 c33
  refine ⟨.inl (by kernel_rfl), ?_⟩
  refine edd (by kernel_rfl) ?_
  refine sq ?_
  refine gen (fun ρ => ρ 8 = .pointer (some ⟨g8, 0, none⟩) ∧ ρ 12 = .pointer (some ⟨g12, 0, none⟩) ∧ True) ⟨z8, z12, trivial⟩ ?_
  rintro ρ ⟨z8, z12, -⟩
  have b36 : B w33 g12 35 ([.int .i64 0, .bool false, av', .int .i64 z.op, d1, d2]) := Hold.blk H26 0 rfl
  have b37 : B w33 g8 35 ([.int .i64 0, .bool false, .slice none 0 0, .int .i64 0, .slice none 0 0, .slice none 0 0]) := Hold.blk H26 16 rfl
  obtain ⟨_, R39⟩ : ∃ F, Kd.R kW w33 F d2 ps := Hold.row H26 2 rfl
  obtain ⟨_, R40⟩ : ∃ F, Kd.R u8 w33 F d1 xs := Hold.row H26 1 rfl
  obtain ⟨_, R41⟩ : ∃ F, Kd.R kAns w33 F av' ((List.range C.length).map A) := Hold.row H26 13 rfl
  refine rg (r (lab [.int .i64 0, .bool false, av', .int .i64 z.op, d1, d2] Tryz.underlying35 rfl ti35 z12 b36 rfl rfl) (ef0 (xst (vs := [.int .i64 0, .bool false, av', .int .i64 z.op, d1, d2]) ti35 z8 rfl rfl b37 rfl (Nat.le_of_ble_eq_true rfl) (oc rfl (oc rfl (oc (R41).oneCell (oc rfl (oc (R40).oneCell (oc (R39).oneCell on))))))) ?_))
  rintro w38 ⟨-, b38, c38⟩
  have H27 : Hold w [] w38 [rB g12 35 ([.int .i64 0, .bool false, av', .int .i64 z.op, d1, d2]), rR u8 5 d1 xs, rR kW 100 d2 ps, rB gp 98 ([dv, wv, .map (some mg)]), rR u8 5 dv xs, rR kW 100 wv ps, rM mg (yng ps), rB ge 60 ((eC s b gp gw z.gd z.tv z.q z.a z.us z.op g7 g11)), rR kE 115 z.tv z.tab, rMW gw (z.wk.map kfP), rMW z.gd (z.du.map kfP), rPool 2 z.pl, rB g7 2 ([.int .i64 (-1)]), rR kAns 42 av' ((List.range C.length).map A), rB g4 33 ([dv0, wv0]), rB g5 25 ([.int .i64 s, .int .i64 b]), rB g8 35 ([.int .i64 0, .bool false, av', .int .i64 z.op, d1, d2]), rB gm 80 ([.pointer (some ⟨gp, 0, none⟩), .int .i64 s, .int .i64 b, .int .i64 (s * b), .int .i64 (tabs s b), .int .i64 (logs s b), .int .i64 (logs s b + s * b), .int .i64 (s * b - 2 * b), .int .i64 1, tv, iv, .slice none 0 0]), rB g11 47 ([.pointer (some ⟨ge, 0, none⟩)])] := Hold.setB H26 16 rfl b38 c38 rfl
  clear H26
  clear b38 c38
  refine re (rt ?_)
  obtain ⟨_, R42⟩ : ∃ F, Kd.R u8 w38 F d1 xs := Hold.row H27 1 rfl
  obtain ⟨_, R43⟩ : ∃ F, Kd.R kW w38 F d2 ps := Hold.row H27 2 rfl
  have o1 : d1.oneCell' = true := (R42).oneCell
  have o2 : d2.oneCell' = true := (R43).oneCell
  have b44 : B w38 g8 35 ([.int .i64 0, .bool false, av', .int .i64 z.op, d1, d2]) := Hold.blk H27 16 rfl
  have H28 : Hold w [] w38 [rR kAns 42 av' ((List.range C.length).map A)] := (show Hold w [] w38 ([rR kAns 42 av' ((List.range C.length).map A)] ++ [rB g12 35 ([.int .i64 0, .bool false, av', .int .i64 z.op, d1, d2]), rR u8 5 d1 xs, rR kW 100 d2 ps, rB gp 98 ([dv, wv, .map (some mg)]), rR u8 5 dv xs, rR kW 100 wv ps, rM mg (yng ps), rB ge 60 ((eC s b gp gw z.gd z.tv z.q z.a z.us z.op g7 g11)), rR kE 115 z.tv z.tab, rMW gw (z.wk.map kfP), rMW z.gd (z.du.map kfP), rPool 2 z.pl, rB g7 2 ([.int .i64 (-1)]), rB g4 33 ([dv0, wv0]), rB g5 25 ([.int .i64 s, .int .i64 b]), rB g8 35 ([.int .i64 0, .bool false, av', .int .i64 z.op, d1, d2]), rB gm 80 ([.pointer (some ⟨gp, 0, none⟩), .int .i64 s, .int .i64 b, .int .i64 (s * b), .int .i64 (tabs s b), .int .i64 (logs s b), .int .i64 (logs s b + s * b), .int .i64 (s * b - 2 * b), .int .i64 1, tv, iv, .slice none 0 0]), rB g11 47 ([.pointer (some ⟨ge, 0, none⟩)])]) from Hold.re H27 [13, 0, 1, 2, 3, 4, 5, 6, 7, 8, 9, 10, 11, 12, 14, 15, 16, 17, 18] (by kernel_rfl) (by rfl)).drop
  clear H27
  exact finc  (cs := [.int .i64 0, .bool false, av', .int .i64 z.op, d1, d2]) Tryz.results6 Tryz.underlying35 rfl ti35 z8 b44 rfl  ⟨_, _, _, _, rfl, ⟨o1, o2⟩, H28⟩
end Go.Proofs.YtanfhikfeabidaaGreatDoor

namespace Go.Proofs.YtanfhikfeabidaaGreatDoor
open Go Go.Eng
set_option maxRecDepth 100000
set_option maxHeartbeats 4000000
set_option linter.unusedVariables false
set_option linter.unusedSimpArgs false
def decL (i : Nat) : List Int := if i < 10 then [48 + (i : Int)] else [48 + ((i / 10 : Nat) : Int), 48 + ((i % 10 : Nat) : Int)]
theorem decL_ok {i : Nat} (h : i < 100) : ok8 (decL i) := by
  intro x hx
  unfold decL at hx
  split at hx
  · simp at hx; omega
  · simp at hx; omega
theorem decL_inj {i j : Nat} (h : decL i = decL j) : i = j := by
  unfold decL at h
  split at h <;> split at h <;> simp at h <;> omega
def fnm (i : Nat) : ByteArray := (⟨#[102]⟩ : ByteArray) ++ mkS (decL i)
abbrev gB : ByteArray := ⟨#[103]⟩
theorem fnm_n {i : Nat} (h : i < 100) : nums8 (fnm i) = 102 :: decL i := by
  rw [fnm, nums8_app, nums8_mkS (decL_ok h)]; rfl
theorem fnm_inj {i j : Nat} (hi : i < 100) (hj : j < 100) (h : fnm i = fnm j) : i = j := by
  have := congrArg nums8 h
  rw [fnm_n hi, fnm_n hj] at this
  injection this with _ h2
  exact decL_inj h2
theorem fnm_ok {i : Nat} (h : i < 100) : okName (nums8 (fnm i)) := by
  rw [fnm_n h]
  refine ⟨fun b hb => ?_, by simp, ?_⟩
  · rcases List.mem_cons.1 hb with rfl | hb
    · exact .inl ⟨by omega, by omega⟩
    · have : 48 ≤ b ∧ b ≤ 57 := by
        unfold decL at hb
        split at hb <;> simp at hb <;> omega
      exact .inr (.inl this)
  · unfold decL; split <;> simp
theorem gB_ok : okName (nums8 gB) := by
  rw [show nums8 gB = [103] from rfl]
  exact ⟨fun b hb => by simp at hb; subst hb; exact .inl ⟨by omega, by omega⟩, by simp, by simp⟩
theorem findK_no {l : List Kf} {a : ByteArray} (h : ∀ k, k ∈ l → k.nm ≠ a) : findK l a = none := by
  induction l with
  | nil => rfl
  | cons x l ih =>
    rw [findK, if_neg (fun e => h x List.mem_cons_self e.symm)]
    exact ih fun k hk => h k (List.mem_cons_of_mem _ hk)
theorem findK_at : ∀ {l : List Kf} (hnd : (l.map Kf.nm).Nodup) {j : Nat} (hj : j < l.length), findK l l[j].nm = some l[j]
  | x :: l, hnd, 0, _ => by simp [findK]
  | x :: l, hnd, j + 1, hj => by
    rw [List.map_cons, List.nodup_cons] at hnd
    have hj' : j < l.length := by simpa using hj
    rw [List.getElem_cons_succ, findK, if_neg (fun e => hnd.1 (by rw [← e]; exact List.mem_map.2 ⟨_, List.getElem_mem hj', rfl⟩))]
    exact findK_at hnd.2 hj'
theorem delK_drop {l : List Kf} {j : Nat} (hj : j < l.length) : delK (l.drop j) l[j].nm = l.drop (j + 1) := by
  rw [List.drop_eq_getElem_cons hj, delK, if_pos rfl]
theorem findK_drop {l : List Kf} {j : Nat} (hj : j < l.length) : findK (l.drop j) l[j].nm = some l[j] := by
  rw [List.drop_eq_getElem_cons hj, findK, if_pos rfl]
theorem nms_nd {D : List Kf} {n : Nat} (hn : n ≤ 100) (h : D.map Kf.nm = (List.range n).map fnm) : (D.map Kf.nm).Nodup := by
  rw [h]
  refine List.pairwise_map.2 (List.Pairwise.imp_of_mem (fun {a b} ha hb hab e => hab (fnm_inj (by have := List.mem_range.1 ha; omega) (by have := List.mem_range.1 hb; omega) e)) List.nodup_range)
theorem nms_get {D : List Kf} {n j : Nat} (h : D.map Kf.nm = (List.range n).map fnm) (hj : j < D.length) : D[j].nm = fnm j := by
  have h1 : (D.map Kf.nm)[j]? = ((List.range n).map fnm)[j]? := by rw [h]
  have hl : j < n := by have := congrArg List.length h; simp at this; omega
  simpa [hj, hl] using h1
theorem nms_mem {D : List Kf} {n : Nat} (h : D.map Kf.nm = (List.range n).map fnm) {k : Kf} (hk : k ∈ D) : ∃ j, j < n ∧ k.nm = fnm j := by
  have h1 : k.nm ∈ D.map Kf.nm := List.mem_map.2 ⟨k, hk, rfl⟩
  rw [h] at h1
  obtain ⟨j, h2, h3⟩ := List.mem_map.1 h1
  exact ⟨j, List.mem_range.1 h2, h3.symm⟩
theorem nms_len {D : List Kf} {n : Nat} (h : D.map Kf.nm = (List.range n).map fnm) : D.length = n := by
  have := congrArg List.length h
  simpa using this
theorem eB_f {i : Nat} (h : i < 100) : fnm i ≠ (⟨#[]⟩ : ByteArray) := fun e => by
  have := congrArg nums8 e
  rw [fnm_n h] at this; cases this
/-- A table with nothing in it. -/
theorem frS_zero {n : Nat} {a b : Int} (hb : 0 ≤ b) : ∀ k : Nat, k ≤ n → (k : Int) * b - (if 0 ≤ a ∧ a < (k : Int) then b else 0) ≤ frS (List.replicate n 0) a b k := by
  intro k
  induction k with
  | zero => intro _; rw [if_neg (by omega)]; simp [frS]
  | succ k ih =>
    intro hk
    have h1 := ih (by omega)
    have hm : ((k + 1 : Nat) : Int) * b = (k : Int) * b + b := by rw [show ((k + 1 : Nat) : Int) = (k : Int) + 1 from by omega, Int.add_mul, Int.one_mul]
    have h0 : (List.replicate n (0 : Int)).getD k 0 = 0 := by simp [List.getD, List.getElem?_replicate]; split <;> rfl
    simp only [frS]
    rw [hm, h0]
    by_cases e : (k : Int) = a
    · rw [if_neg (show ¬ (¬ (k : Int) = a ∧ (0 : Int) = 0) from fun q => q.1 e), if_pos ⟨by omega, by omega⟩]
      rw [if_neg (by omega)] at h1; omega
    · rw [if_pos (show ¬ (k : Int) = a ∧ (0 : Int) = 0 from ⟨e, rfl⟩)]
      by_cases q : 0 ≤ a ∧ a < (k : Int)
      · rw [if_pos q] at h1; rw [if_pos ⟨q.1, by omega⟩]; omega
      · rw [if_neg q] at h1; rw [if_neg (by omega)]; omega
theorem freeF_zero {s b a us : Int} {t : List (Int × Bool)} (hg : geo s b) (ha : -1 ≤ a ∧ a < s) (hu : 0 ≤ us ∧ us ≤ b) (h : ∀ x, x ∈ t → x = (0, false)) : (a = -1 → s * b ≤ freeF (segCounts t s b) a us b) ∧ s * b - b ≤ freeF (segCounts t s b) a us b := by
  have hg2 := hg
  unfold geo at hg2
  have h1 := frS_zero (n := s.toNat) (a := a) (b := b) (by omega) s.toNat (Nat.le_refl _)
  rw [show ((s.toNat : Nat) : Int) = s from by omega] at h1
  rw [segC_zero hg h]
  unfold freeF
  rw [List.length_replicate]
  by_cases e : 0 ≤ a
  · rw [if_pos ⟨e, ha.2⟩] at h1; rw [if_pos e]
    exact ⟨fun e2 => by omega, by omega⟩
  · rw [if_neg (fun q => e q.1)] at h1; rw [if_neg e]
    exact ⟨fun e2 => by omega, by omega⟩
theorem Lg.zero {s b a us : Int} {t : List (Int × Bool)} (hg : geo s b) (hl : (t.length : Int) = s * b) (ha : -1 ≤ a ∧ a < s) (hu : 0 ≤ us ∧ us ≤ b) (h : ∀ x, x ∈ t → x = (0, false)) : Lg s b t a us := by
  refine ⟨hl, fun x hx => .inl (h x hx), fun i j hi hj _ _ => by rw [h _ (List.getElem_mem hi)], ha, hu, fun h0 x hx q => ?_⟩
  have hlp := logs_pos hg
  have hab : 0 ≤ a * b := Int.mul_nonneg h0 (by unfold geo at hg; omega)
  rw [h x hx] at q
  have := q.1
  dsimp only at this
  omega
/-- What the numbers are. -/
structure Cx (s b : Int) (n fit : Nat) (dt : ByteArray) : Prop where
  hg : geo s b
  hn : mN dt.size + 1 = n
  hd : dt.size ≤ 1408
  h1 : ((fit * n : Nat) : Int) ≤ s * b - 2 * b
  h2 : s * b - 2 * b < ((fit * n : Nat) : Int) + n
  h3 : fit ≤ 62
structure P1 (s b : Int) (n i : Nat) (z : St) : Prop where
  q : z.q = 1
  lg : Lg s b z.tab z.a z.us
  us : usedN z.tab = ((i * n : Nat) : Int)
  fr : s * b - ((i * n : Nat) : Int) ≤ freeF (segCounts z.tab s b) z.a z.us b
  nms : z.wk.map Kf.nm = (List.range i).map fnm
  ok : ∀ k, k ∈ z.wk → KfOk z.tab.length z.pl k
  own : ∀ (m : Nat) (h : m < z.tab.length), z.tab[m] ≠ (0, false) → ownB z.wk ((m : Int) + 1) = true
  du : z.du = []
structure P2 (s b : Int) (n fit j : Nat) (z : St) : Prop where
  q : z.q = 2
  lg : Lg s b z.tab z.a z.us
  us : usedN z.tab = ((fit * n : Nat) : Int)
  nms : z.du.map Kf.nm = (List.range fit).map fnm
  wk : z.wk = z.du.drop j
  ok : ∀ k, k ∈ z.du → KfOk z.tab.length z.pl k
structure P3 (s b : Int) (z : St) : Prop where
  q : z.q = 3
  lg : Lg s b z.tab z.a z.us
  zz : ∀ x, x ∈ z.tab → x = (0, false)
  wk : z.wk = []
  du : z.du = []
structure P4 (s b : Int) (dt : ByteArray) (z : St) : Prop where
  ex : ∃ k, z.wk = [k] ∧ k.nm = gB ∧ (k.lv, k.ls) ∈ z.pl ∧ k.lv.oneCell' = true ∧ k.ls.length ≤ 100 ∧ LsOk s b z.rdf z.tab k.ls ∧ (0 ≤ k.sz ∧ k.sz ≤ 64 * (k.ls.length : Int)) ∧ mkS ((catR z.rdf z.tab k.ls).take k.sz.toNat) = dt
  len : z.tab.length ≤ 2000
theorem Lg.len2 {s b a us : Int} {t : List (Int × Bool)} (hg : geo s b) (h : Lg s b t a us) : t.length ≤ 2000 := by
  have := geo_mul hg
  have := h.len
  omega
theorem KfOk.mono {N N' : Int} {pl pl' : List (Value × List Int)} {k : Kf} (h : KfOk N pl k) (hN : N = N') (hp : ∀ x, x ∈ pl → x ∈ pl') : KfOk N' pl' k := by
  subst hN
  exact ⟨h.lid, h.ls, h.num, hp _ h.pool, h.ocell⟩
/-- What a stored file is. -/
theorem StR.kf {s b f0 : Int} {tab tab' : List (Int × Bool)} {rdf rdf' : Int → List Int} {nm dt : ByteArray} {a us : Int} {k : Kf} (S : StR s b f0 tab rdf nm dt tab' rdf' a us k) (hd : dt.size ≤ 1408) {pl : List (Value × List Int)} : KfOk tab'.length ((k.lv, k.ls) :: pl) k := by
  have hl := S.J.len
  have hall : ∀ l, l ∈ k.ls ++ [k.lid] → 1 ≤ l ∧ l ≤ (tab'.length : Int) := fun l h => by
    obtain ⟨i, h1, h2, _⟩ := S.lds.2 l h
    omega
  refine ⟨hall _ (by simp), fun l h => hall l (by simp [h]), ?_, List.mem_cons_self, S.ocell⟩
  have := S.num
  unfold mN at this
  omega
theorem StR.own {s b f0 : Int} {tab tab' : List (Int × Bool)} {rdf rdf' : Int → List Int} {nm dt : ByteArray} {a us : Int} {k : Kf} (S : StR s b f0 tab rdf nm dt tab' rdf' a us k) {wk : List Kf} (ho : ∀ (m : Nat) (h : m < tab.length), tab[m] ≠ (0, false) → ownB wk ((m : Int) + 1) = true) :
    ∀ (m : Nat) (h : m < tab'.length), tab'[m] ≠ (0, false) → ownB (wk ++ [k]) ((m : Int) + 1) = true := by
  intro m h hne
  have hl := S.J.len
  have hk : ∀ l, l ∈ k.ls ++ [k.lid] → ownK k l = true := fun l h => by
    unfold ownK
    rw [List.contains_iff_mem]
    simp at h
    rcases h with h | h <;> simp [h]
  have hcat : ∀ l, ownB (wk ++ [k]) l = (ownB wk l || ownK k l) := fun l => by simp [ownB]
  rw [hcat, Bool.or_eq_true]
  by_cases e : ((m : Int) + 1) ∈ k.ls ++ [k.lid]
  · exact .inr (hk _ e)
  · left
    have hr := S.J.rest m h (by omega) (fun j hj _ q => e (by rw [← q]; exact List.getElem_mem hj))
    exact ho m (by omega) (by rw [← hr]; exact hne)
theorem StR.read {s b f0 : Int} {tab tab' : List (Int × Bool)} {rdf rdf' : Int → List Int} {nm dt : ByteArray} {a us : Int} {k : Kf} (hg : geo s b) (S : StR s b f0 tab rdf nm dt tab' rdf' a us k) : LsOk s b rdf' tab' k.ls ∧ (0 ≤ k.sz ∧ k.sz ≤ 64 * (k.ls.length : Int)) ∧ mkS ((catR rdf' tab' k.ls).take k.sz.toNat) = dt := by
  have h8 := nums8_ok dt
  have hnl := nums8_len dt
  have hnum := S.num
  have hlp := logs_pos hg
  have main : ∀ (j : Nat) (hj : j < k.ls.length), ∃ m : Nat, ∃ h : m < tab'.length, k.ls[j] = (m : Int) + 1 ∧ logs s b ≤ tab'[m].1 ∧ tab'[m].1 < logs s b + s * b ∧ rdf' tab'[m].1 = blkD (nums8 dt) j := by
    intro j hj
    obtain ⟨m, h, h1, h2, h3, h4⟩ := S.J.got j (by simp; omega) (by omega)
    refine ⟨m, h, ?_, h2, h3, ?_⟩
    · rw [h1, List.getElem_append_left hj]
    · rw [h4]; unfold dbF; rw [if_pos (by rw [hnl, ← hnum]; exact hj)]
  refine ⟨fun l hl => ?_, ?_, ?_⟩
  · obtain ⟨j, hj, rfl⟩ := List.getElem_of_mem hl
    obtain ⟨m, h, h1, h2, h3, h4⟩ := main j hj
    exact ⟨m, h, h1, by omega, h3, by rw [h4]; exact blkD_ok h8 j⟩
  · rw [S.hsz, hnum]; unfold mN; omega
  · have hc : catR rdf' tab' k.ls = (List.range k.ls.length).flatMap (blkD (nums8 dt)) := by
      unfold catR
      rw [List.flatMap_def, List.flatMap_def]
      congr 1
      apply List.ext_getElem (by simp)
      intro j h1 h2
      simp only [List.length_map] at h1
      obtain ⟨m, h, e1, e2, e3, e4⟩ := main j h1
      simp only [List.getElem_map, List.getElem_range]
      rw [e1, show ((m : Int) + 1 - 1).toNat = m by omega, List.getD_eq_getElem?_getD, List.getElem?_eq_getElem h]
      exact e4
    have hb := blkD_cat (nums8 dt) k.ls.length
    have hle : dt.size ≤ k.ls.length * 64 := by rw [hnum]; unfold mN; omega
    rw [Nat.min_eq_left (by omega), List.take_of_length_le (i := k.ls.length * 64) (by omega), hnl] at hb
    rw [S.hsz, Int.toNat_natCast, hc, hb, mkS_nums8]
theorem P1.start {s b : Int} {n : Nat} (hg : geo s b) (gd : Nat) (tv : Value) (rdf : Int → List Int) : P1 s b n 0 ⟨gd, tv, 0, 1, -1, 0, rdf, List.replicate (s * b).toNat (0, false), [], [], []⟩ := by
  have hm := geo_mul hg
  have hg2 := hg
  unfold geo at hg2
  have hz : ∀ x, x ∈ List.replicate (s * b).toNat ((0 : Int), false) → x = (0, false) := fun x hx => List.eq_of_mem_replicate hx
  refine ⟨rfl, Lg.zero hg (by simp; omega) ⟨by dsimp only; omega, by dsimp only; omega⟩ ⟨by dsimp only; omega, by dsimp only; omega⟩ hz, ?_, ?_, rfl, (fun k hk => by cases hk), fun m h hne => absurd (hz _ (List.getElem_mem h)) hne, rfl⟩
  · rw [usedN_zero hz]; simp
  · have := (freeF_zero (a := -1) (us := 0) hg ⟨by omega, by omega⟩ ⟨by omega, by omega⟩ hz).1 rfl
    simpa using this
theorem P1.store {s b : Int} {n i fit : Nat} {dt : ByteArray} {z : St} (C : Cx s b n fit dt) (hi : i < fit) (J : P1 s b n i z) {op' a' us' : Int} {rd' : Int → List Int} {tab' : List (Int × Bool)} {k : Kf} (S : StR s b (freeF (segCounts z.tab s b) z.a z.us b) z.tab z.rdf (fnm i) dt tab' rd' a' us' k) : P1 s b n (i + 1) { z with op := op', a := a', us := us', rdf := rd', tab := tab', wk := z.wk ++ [k], pl := (k.lv, k.ls) :: z.pl } := by
  have hs : ((i + 1) * n : Nat) = i * n + n := by rw [Nat.add_mul, Nat.one_mul]
  have hn := C.hn
  have hl := S.J.len
  refine ⟨J.q, S.J.lg, ?_, ?_, ?_, ?_, S.own J.own, J.du⟩
  · rw [S.J.used, J.us, hs]; omega
  · have h1 := S.J.fr
    have h2 := J.fr
    rw [hs]; dsimp only; omega
  · dsimp only
    rw [List.map_append, J.nms, List.range_succ, List.map_append, List.map_cons, List.map_nil, S.hnm]; rfl
  · intro x hx
    dsimp only at hx ⊢
    rcases List.mem_append.1 hx with hx | hx
    · exact (J.ok x hx).mono (by rw [hl]) fun y hy => List.mem_cons_of_mem _ hy
    · have := List.mem_singleton.1 hx
      subst this
      exact S.kf C.hd
theorem ownT_all {t : List (Int × Bool)} {p : Int → Bool} (h : ∀ (m : Nat) (h : m < t.length), t[m] ≠ (0, false) → p ((m : Int) + 1) = true) : ownT t p = t := by
  apply List.ext_getElem (ownT_len t p)
  intro i h1 h2
  rw [ownT_get h2]
  by_cases e : t[i] = (0, false)
  · rw [e]; split <;> rfl
  · rw [if_pos (h i h2 e)]
theorem P1.sync {s b : Int} {n fit : Nat} {z : St} (J : P1 s b n fit z) {op' : Int} {gd' : Nat} {rd' : Int → List Int} {tv' : Value} : P2 s b n fit 0 { z with op := op', q := z.q + 1, rdf := rd', gd := gd', du := z.wk, tv := tv', tab := ownT z.tab (ownB z.wk) } := by
  have e := ownT_all J.own
  refine ⟨by dsimp only; rw [J.q]; rfl, by dsimp only; rw [e]; exact J.lg, by dsimp only; rw [e]; exact J.us, J.nms, rfl, fun k hk => by dsimp only; rw [e]; exact J.ok k hk⟩
theorem P2.sync {s b : Int} {n fit : Nat} {z : St} (hg : geo s b) (J : P2 s b n fit fit z) {op' : Int} {gd' : Nat} {rd' : Int → List Int} {tv' : Value} : P3 s b { z with op := op', q := z.q + 1, rdf := rd', gd := gd', du := z.wk, tv := tv', tab := ownT z.tab (ownB z.wk) } := by
  have hw : z.wk = [] := by rw [J.wk, List.drop_of_length_le (by rw [nms_len J.nms]; exact Nat.le_refl _)]
  have hz : ∀ x, x ∈ ownT z.tab (ownB z.wk) → x = (0, false) := fun x hx => by
    rw [hw, show ownB [] = fun _ => false from rfl, ownT_none] at hx
    exact List.eq_of_mem_replicate hx
  exact ⟨by dsimp only; rw [J.q]; rfl, Lg.zero hg (by rw [ownT_len]; exact J.lg.len) J.lg.act J.lg.rus hz, hz, hw, hw⟩
section
variable {w : World} {F : List Nat} {ge gp gw gl gk : Nat} {s b : Int} {n fit i : Nat} {dt : ByteArray}
theorem stp_ok (h : Hs w [rEng ge gp gw gl gk s b (P1 s b n i)] F) (nd : F.Nodup) (C : Cx s b n fit dt) (hi : i < fit) : Ret Tryz.prog 34 #[.pointer (some ⟨ge, 0, none⟩), .agg #[.int .i64 1, .string (fnm i), .string dt, .int .i64 0]] w (fun r w' => r = ansV 0 noB ∧ Hold w F w' [rEng ge gp gw gl gk s b (P1 s b n (i + 1))]) := by
  obtain ⟨z, J, h⟩ := Hs.engE h
  have hm := Nat.mul_le_mul_right n (show i + 1 ≤ fit from hi)
  have hs : ((i + 1) * n : Nat) = i * n + n := by rw [Nat.add_mul, Nat.one_mul]
  have h1 := C.h1
  have h3 := C.h3
  have hn := C.hn
  have hfr := J.fr
  have hg2 := C.hg
  unfold geo at hg2
  refine (call_write_ok h nd C.hg C.hd (fnm_ok (by omega)) (findK_no fun k hk e => ?_) J.lg (by rw [J.us]; omega) (by omega) (fun k hk => (J.ok k hk).ocell) (by rw [J.du]; intro k hk; cases hk)).mono fun r w' hh => ?_
  · obtain ⟨j, hj, e2⟩ := nms_mem J.nms hk
    have := fnm_inj (by omega) (by omega) (e.symm.trans e2)
    omega
  · obtain ⟨op', rd', a', us', tab', k, rfl, S, H⟩ := hh
    exact ⟨rfl, Hold.engI { z with op := op', a := a', us := us', rdf := rd', tab := tab', wk := z.wk ++ [k], pl := (k.lv, k.ls) :: z.pl } (J.store C hi S) H⟩
theorem stp_no (h : Hs w [rEng ge gp gw gl gk s b (P1 s b n fit)] F) (nd : F.Nodup) (C : Cx s b n fit dt) : Ret Tryz.prog 34 #[.pointer (some ⟨ge, 0, none⟩), .agg #[.int .i64 1, .string (fnm fit), .string dt, .int .i64 0]] w (fun r w' => r = ansV 24 noB ∧ Hold w F w' [rEng ge gp gw gl gk s b (P1 s b n fit)]) := by
  obtain ⟨z, J, h⟩ := Hs.engE h
  have h2 := C.h2
  have h3 := C.h3
  have hn := C.hn
  refine (call_write_no h nd C.hg C.hd (fnm_ok (by omega)) (findK_no fun k hk e => ?_) (J.lg.len2 C.hg) (by rw [J.us]; omega)).mono fun r w' hh => ⟨hh.1, Hold.engI z J hh.2⟩
  obtain ⟨j, hj, e2⟩ := nms_mem J.nms hk
  have := fnm_inj (by omega) (by omega) (e.symm.trans e2)
  omega
theorem stp_sync1 (h : Hs w [rEng ge gp gw gl gk s b (P1 s b n fit)] F) (nd : F.Nodup) (C : Cx s b n fit dt) : Ret Tryz.prog 34 #[.pointer (some ⟨ge, 0, none⟩), .agg #[.int .i64 6, .string (⟨#[]⟩ : ByteArray), .string (⟨#[]⟩ : ByteArray), .int .i64 0]] w (fun r w' => r = ansV 0 noB ∧ Hold w F w' [rEng ge gp gw gl gk s b (P2 s b n fit 0)]) := by
  obtain ⟨z, J, h⟩ := Hs.engE h
  have h3 := C.h3
  refine (call_sync (nm := gB) (dt := gB) h nd C.hg (J.lg.len2 C.hg) J.ok (by rw [J.q]; omega) (findK_no fun k hk e => ?_)).mono fun r w' hh => ?_
  · obtain ⟨j, hj, e2⟩ := nms_mem J.nms hk
    exact eB_f (by omega) (e2.symm.trans e)
  · obtain ⟨op', rd', gd', tv', rfl, _, H⟩ := hh
    exact ⟨rfl, Hold.engI { z with op := op', q := z.q + 1, rdf := rd', gd := gd', du := z.wk, tv := tv', tab := ownT z.tab (ownB z.wk) } J.sync H⟩
theorem stp_del (h : Hs w [rEng ge gp gw gl gk s b (P2 s b n fit i)] F) (nd : F.Nodup) (C : Cx s b n fit dt) (hi : i < fit) : Ret Tryz.prog 34 #[.pointer (some ⟨ge, 0, none⟩), .agg #[.int .i64 4, .string (fnm i), .string (⟨#[]⟩ : ByteArray), .int .i64 0]] w (fun r w' => r = ansV 0 noB ∧ Hold w F w' [rEng ge gp gw gl gk s b (P2 s b n fit (i + 1))]) := by
  obtain ⟨z, J, h⟩ := Hs.engE h
  have h3 := C.h3
  have hl := nms_len J.nms
  have hi' : i < z.du.length := by omega
  have hnm := nms_get J.nms hi'
  have hin : z.du[i] ∈ z.du := List.getElem_mem hi'
  refine (call_delete (dt := gB) h nd (fnm_ok (by omega)) (by rw [J.wk, ← hnm]; exact findK_drop hi') (by rw [← hnm]; exact findK_at (nms_nd (by omega) J.nms) hi') rfl (J.ok _ hin).ocell (fun k hk => by rw [J.wk] at hk; exact (J.ok k (List.mem_of_mem_drop hk)).ocell) (fun k hk => (J.ok k hk).ocell)).mono fun r w' hh => ?_
  obtain ⟨rfl, H⟩ := hh
  refine ⟨rfl, Hold.engI { z with wk := delK z.wk (fnm i) } ⟨J.q, J.lg, J.us, J.nms, ?_, J.ok⟩ H⟩
  dsimp only
  rw [J.wk, ← hnm]; exact delK_drop hi'
theorem stp_full (h : Hs w [rEng ge gp gw gl gk s b (P2 s b n fit fit)] F) (nd : F.Nodup) (C : Cx s b n fit dt) : Ret Tryz.prog 34 #[.pointer (some ⟨ge, 0, none⟩), .agg #[.int .i64 1, .string gB, .string dt, .int .i64 0]] w (fun r w' => r = ansV 24 noB ∧ Hold w F w' [rEng ge gp gw gl gk s b (P2 s b n fit fit)]) := by
  obtain ⟨z, J, h⟩ := Hs.engE h
  have h2 := C.h2
  have hn := C.hn
  have hw : z.wk = [] := by rw [J.wk, List.drop_of_length_le (by rw [nms_len J.nms]; exact Nat.le_refl _)]
  exact (call_write_no h nd C.hg C.hd gB_ok (by rw [hw]; rfl) (J.lg.len2 C.hg) (by rw [J.us]; omega)).mono fun r w' hh => ⟨hh.1, Hold.engI z J hh.2⟩
theorem stp_sync2 (h : Hs w [rEng ge gp gw gl gk s b (P2 s b n fit fit)] F) (nd : F.Nodup) (C : Cx s b n fit dt) : Ret Tryz.prog 34 #[.pointer (some ⟨ge, 0, none⟩), .agg #[.int .i64 6, .string (⟨#[]⟩ : ByteArray), .string (⟨#[]⟩ : ByteArray), .int .i64 0]] w (fun r w' => r = ansV 0 noB ∧ Hold w F w' [rEng ge gp gw gl gk s b (P3 s b)]) := by
  obtain ⟨z, J, h⟩ := Hs.engE h
  have hw : z.wk = [] := by rw [J.wk, List.drop_of_length_le (by rw [nms_len J.nms]; exact Nat.le_refl _)]
  refine (call_sync (nm := gB) (dt := gB) h nd C.hg (J.lg.len2 C.hg) (by rw [hw]; intro k hk; cases hk) (by rw [J.q]; omega) (by rw [hw]; rfl)).mono fun r w' hh => ?_
  obtain ⟨op', rd', gd', tv', rfl, _, H⟩ := hh
  exact ⟨rfl, Hold.engI { z with op := op', q := z.q + 1, rdf := rd', gd := gd', du := z.wk, tv := tv', tab := ownT z.tab (ownB z.wk) } (J.sync C.hg) H⟩
theorem stp_g_no (h : Hs w [rEng ge gp gw gl gk s b (P3 s b)] F) (nd : F.Nodup) (C : Cx s b n 0 dt) : Ret Tryz.prog 34 #[.pointer (some ⟨ge, 0, none⟩), .agg #[.int .i64 1, .string gB, .string dt, .int .i64 0]] w (fun r w' => r = ansV 24 noB ∧ Hold w F w' [rEng ge gp gw gl gk s b (P3 s b)]) := by
  obtain ⟨z, J, h⟩ := Hs.engE h
  have h2 := C.h2
  have hn := C.hn
  exact (call_write_no h nd C.hg C.hd gB_ok (by rw [J.wk]; rfl) (J.lg.len2 C.hg) (by rw [usedN_zero J.zz]; omega)).mono fun r w' hh => ⟨hh.1, Hold.engI z J hh.2⟩
theorem stp_none (h : Hs w [rEng ge gp gw gl gk s b (P3 s b)] F) (nd : F.Nodup) : Ret Tryz.prog 34 #[.pointer (some ⟨ge, 0, none⟩), .agg #[.int .i64 2, .string gB, .string (⟨#[]⟩ : ByteArray), .int .i64 0]] w (fun r w' => r = ansV 22 noB ∧ Hold w F w' [rEng ge gp gw gl gk s b (P3 s b)]) := by
  obtain ⟨z, J, h⟩ := Hs.engE h
  exact (call_none (dt := gB) h nd gB_ok (by rw [J.wk]; rfl)).mono fun r w' hh => ⟨hh.1, Hold.engI z J hh.2⟩
theorem stp_g_ok (h : Hs w [rEng ge gp gw gl gk s b (P3 s b)] F) (nd : F.Nodup) (C : Cx s b n fit dt) (hf : 0 < fit) : Ret Tryz.prog 34 #[.pointer (some ⟨ge, 0, none⟩), .agg #[.int .i64 1, .string gB, .string dt, .int .i64 0]] w (fun r w' => r = ansV 0 noB ∧ Hold w F w' [rEng ge gp gw gl gk s b (P4 s b dt)]) := by
  obtain ⟨z, J, h⟩ := Hs.engE h
  have h1 := C.h1
  have hn := C.hn
  have hm := Nat.mul_le_mul_right n (show 1 ≤ fit from hf)
  have hfr := (freeF_zero C.hg J.lg.act J.lg.rus J.zz).2
  have hg2 := C.hg
  unfold geo at hg2
  refine (call_write_ok h nd C.hg C.hd gB_ok (by rw [J.wk]; rfl) J.lg (by rw [usedN_zero J.zz]; omega) (by omega) (by rw [J.wk]; intro k hk; cases hk) (by rw [J.du]; intro k hk; cases hk)).mono fun r w' hh => ?_
  obtain ⟨op', rd', a', us', tab', k, rfl, S, H⟩ := hh
  obtain ⟨r1, r2, r3⟩ := S.read C.hg
  have hnum := S.num
  have hd := C.hd
  refine ⟨rfl, Hold.engI { z with op := op', a := a', us := us', rdf := rd', tab := tab', wk := z.wk ++ [k], pl := (k.lv, k.ls) :: z.pl } ⟨⟨k, by dsimp only; rw [J.wk]; rfl, S.hnm, List.mem_cons_self, S.ocell, ?_, r1, r2, r3⟩, ?_⟩ H⟩
  · unfold mN at hnum; omega
  · exact S.J.lg.len2 C.hg
theorem stp_read (h : Hs w [rEng ge gp gw gl gk s b (P4 s b dt)] F) (nd : F.Nodup) : Ret Tryz.prog 34 #[.pointer (some ⟨ge, 0, none⟩), .agg #[.int .i64 2, .string gB, .string (⟨#[]⟩ : ByteArray), .int .i64 0]] w (fun r w' => r = ansV 0 dt ∧ Hold w F w' [rEng ge gp gw gl gk s b (fun _ => True)]) := by
  obtain ⟨z, J, h⟩ := Hs.engE h
  obtain ⟨k, e1, e2, e3, e4, e5, e6, e7, e8⟩ := J.ex
  exact (call_read (dt := gB) h nd gB_ok (k := k) (by rw [e1, findK, if_pos e2.symm]) J.len e3 e4 e5 e6 e7).mono fun r w' hh => ⟨by rw [hh.1, e8], Hold.engI z trivial hh.2⟩
end
end Go.Proofs.YtanfhikfeabidaaGreatDoor

namespace Go.Proofs.YtanfhikfeabidaaGreatDoor
open Go Go.Eng
set_option maxRecDepth 100000
set_option maxHeartbeats 4000000
set_option linter.unusedVariables false
set_option linter.unusedSimpArgs false
def Cf (fit : Nat) (dt : ByteArray) (i : Nat) : Int × ByteArray × ByteArray :=
  if i ≤ fit then (1, fnm i, dt) else if i = fit + 1 then (6, eB, eB) else if i < 2 * fit + 2 then (4, fnm (i - fit - 2), eB) else if i = 2 * fit + 2 then (1, gB, dt) else if i = 2 * fit + 3 then (6, eB, eB) else if i = 2 * fit + 4 then (1, gB, dt) else (2, gB, eB)
def Af (fit : Nat) (dt : ByteArray) (i : Nat) : Int × ByteArray :=
  if i = fit ∨ i = 2 * fit + 2 ∨ (i = 2 * fit + 4 ∧ fit = 0) then (24, noB) else if i = 2 * fit + 5 then (if fit = 0 then (22, noB) else (0, dt)) else (0, noB)
structure Jf (s b : Int) (n fit : Nat) (dt : ByteArray) (i : Nat) (z : St) : Prop where
  p1 : i ≤ fit → P1 s b n i z
  p2 : i = fit + 1 → P1 s b n fit z
  p3 : ∀ j, j ≤ fit → i = fit + 2 + j → P2 s b n fit j z
  p4 : i = 2 * fit + 3 → P2 s b n fit fit z
  p5 : i = 2 * fit + 4 → P3 s b z
  p6 : i = 2 * fit + 5 → if fit = 0 then P3 s b z else P4 s b dt z
theorem Hs.engM {w : World} {F : List Nat} {ge gp gw gl gk : Nat} {s b : Int} {J J' : St → Prop} (hm : ∀ z, J z → J' z) (h : Hs w [rEng ge gp gw gl gk s b J] F) : Hs w [rEng ge gp gw gl gk s b J'] F := by
  obtain ⟨F1, F2, e, ⟨z, hJ, h1⟩, h2⟩ := h
  exact ⟨F1, F2, e, ⟨z, hm z hJ, h1⟩, h2⟩
theorem Hold.engM {w0 w : World} {F0 : List Nat} {ge gp gw gl gk : Nat} {s b : Int} {J J' : St → Prop} (hm : ∀ z, J z → J' z) (H : Hold w0 F0 w [rEng ge gp gw gl gk s b J]) : Hold w0 F0 w [rEng ge gp gw gl gk s b J'] := by
  obtain ⟨F, h, T⟩ := H
  exact ⟨F, Hs.engM hm h, T⟩
theorem spc_calls {s b : Int} {n fit : Nat} {dt : ByteArray} (C : Cx s b n fit dt) (ge gp gw gl gk i : Nat) (hi : i < ((List.range (2 * fit + 6)).map (Cf fit dt)).length) (w1 : World) (F1 : List Nat) (h : Hs w1 [rEng ge gp gw gl gk s b (Jf s b n fit dt i)] F1) (nd : F1.Nodup) :
    Ret Tryz.prog 34 #[.pointer (some ⟨ge, 0, none⟩), .agg #[.int .i64 ((List.range (2 * fit + 6)).map (Cf fit dt))[i].1, .string ((List.range (2 * fit + 6)).map (Cf fit dt))[i].2.1, .string ((List.range (2 * fit + 6)).map (Cf fit dt))[i].2.2, .int .i64 0]] w1 (fun r w' => r = ansV (Af fit dt i).1 (Af fit dt i).2 ∧ Hold w1 F1 w' [rEng ge gp gw gl gk s b (Jf s b n fit dt (i + 1))]) := by
  have hl : i < 2 * fit + 6 := by simpa using hi
  have hC : ((List.range (2 * fit + 6)).map (Cf fit dt))[i] = Cf fit dt i := by simp
  rw [hC]
  have gen : ∀ (c : Int × ByteArray × ByteArray) (a : Int × ByteArray) (J J' : St → Prop), Cf fit dt i = c → Af fit dt i = a → (∀ z, Jf s b n fit dt i z → J z) → (∀ z, J' z → Jf s b n fit dt (i + 1) z) →
      (Hs w1 [rEng ge gp gw gl gk s b J] F1 → Ret Tryz.prog 34 #[.pointer (some ⟨ge, 0, none⟩), .agg #[.int .i64 c.1, .string c.2.1, .string c.2.2, .int .i64 0]] w1 (fun r w' => r = ansV a.1 a.2 ∧ Hold w1 F1 w' [rEng ge gp gw gl gk s b J'])) →
      Ret Tryz.prog 34 #[.pointer (some ⟨ge, 0, none⟩), .agg #[.int .i64 (Cf fit dt i).1, .string (Cf fit dt i).2.1, .string (Cf fit dt i).2.2, .int .i64 0]] w1 (fun r w' => r = ansV (Af fit dt i).1 (Af fit dt i).2 ∧ Hold w1 F1 w' [rEng ge gp gw gl gk s b (Jf s b n fit dt (i + 1))]) := by
    intro c a J J' e1 e2 h1 h2 hr
    rw [e1, e2]
    exact (hr (Hs.engM h1 h)).mono fun r w' hh => ⟨hh.1, Hold.engM h2 hh.2⟩
  by_cases c1 : i < fit
  · refine gen (1, fnm i, dt) (0, noB) (P1 s b n i) (P1 s b n (i + 1)) ?_ ?_ (fun z J => J.p1 (by omega)) (fun z J => ⟨fun _ => J, fun q => by omega, fun j hj q => by omega, fun q => by omega, fun q => by omega, fun q => by omega⟩) (fun h => stp_ok h nd C c1)
    · unfold Cf; rw [if_pos (by omega)]
    · unfold Af; rw [if_neg (by omega), if_neg (by omega)]
  by_cases c2 : i = fit
  · refine gen (1, fnm fit, dt) (24, noB) (P1 s b n fit) (P1 s b n fit) ?_ ?_ (fun z J => by have := J.p1 (by omega); rw [c2] at this; exact this) (fun z J => ⟨fun q => by omega, fun _ => J, fun j hj q => by omega, fun q => by omega, fun q => by omega, fun q => by omega⟩) (fun h => stp_no h nd C)
    · unfold Cf; rw [if_pos (by omega), c2]
    · unfold Af; rw [if_pos (by omega)]
  by_cases c3 : i = fit + 1
  · refine gen (6, eB, eB) (0, noB) (P1 s b n fit) (P2 s b n fit 0) ?_ ?_ (fun z J => J.p2 c3) (fun z J => ⟨fun q => by omega, fun q => by omega, fun j hj q => (by obtain rfl : j = 0 := (by omega); exact J), fun q => by omega, fun q => by omega, fun q => by omega⟩) (fun h => stp_sync1 h nd C)
    · unfold Cf; rw [if_neg (by omega), if_pos c3]
    · unfold Af; rw [if_neg (by omega), if_neg (by omega)]
  by_cases c4 : i < 2 * fit + 2
  · obtain ⟨j, hj⟩ : ∃ j, i = fit + 2 + j := ⟨i - fit - 2, by omega⟩
    refine gen (4, fnm j, eB) (0, noB) (P2 s b n fit j) (P2 s b n fit (j + 1)) ?_ ?_ (fun z J => J.p3 j (by omega) hj) (fun z J => ⟨fun q => by omega, fun q => by omega, fun j2 hj2 q => (by obtain rfl : j2 = j + 1 := (by omega); exact J), fun q => by omega, fun q => by omega, fun q => by omega⟩) (fun h => stp_del h nd C (by omega))
    · unfold Cf; rw [if_neg (by omega), if_neg c3, if_pos c4, show i - fit - 2 = j by omega]
    · unfold Af; rw [if_neg (by omega), if_neg (by omega)]
  by_cases c5 : i = 2 * fit + 2
  · refine gen (1, gB, dt) (24, noB) (P2 s b n fit fit) (P2 s b n fit fit) ?_ ?_ (fun z J => J.p3 fit (by omega) (by omega)) (fun z J => ⟨fun q => by omega, fun q => by omega, fun j hj q => by omega, fun _ => J, fun q => by omega, fun q => by omega⟩) (fun h => stp_full h nd C)
    · unfold Cf; rw [if_neg (by omega), if_neg c3, if_neg c4, if_pos c5]
    · unfold Af; rw [if_pos (by omega)]
  by_cases c6 : i = 2 * fit + 3
  · refine gen (6, eB, eB) (0, noB) (P2 s b n fit fit) (P3 s b) ?_ ?_ (fun z J => J.p4 c6) (fun z J => ⟨fun q => by omega, fun q => by omega, fun j hj q => by omega, fun q => by omega, fun q => J, fun q => by omega⟩) (fun h => stp_sync2 h nd C)
    · unfold Cf; rw [if_neg (by omega), if_neg c3, if_neg c4, if_neg c5, if_pos c6]
    · unfold Af; rw [if_neg (by omega), if_neg (by omega)]
  by_cases c7 : i = 2 * fit + 4
  · have eC : Cf fit dt i = (1, gB, dt) := by unfold Cf; rw [if_neg (by omega), if_neg c3, if_neg c4, if_neg c5, if_neg c6, if_pos c7]
    by_cases f0 : fit = 0
    · subst f0
      refine gen (1, gB, dt) (24, noB) (P3 s b) (P3 s b) eC ?_ (fun z J => J.p5 c7) (fun z J => ⟨fun q => by omega, fun q => by omega, fun j hj q => by omega, fun q => by omega, fun q => by omega, fun q => by rw [if_pos rfl]; exact J⟩) (fun h => stp_g_no h nd C)
      unfold Af; rw [if_pos (by omega)]
    · refine gen (1, gB, dt) (0, noB) (P3 s b) (P4 s b dt) eC ?_ (fun z J => J.p5 c7) (fun z J => ⟨fun q => by omega, fun q => by omega, fun j hj q => by omega, fun q => by omega, fun q => by omega, fun q => by rw [if_neg f0]; exact J⟩) (fun h => stp_g_ok h nd C (by omega))
      unfold Af; rw [if_neg (by omega), if_neg (by omega)]
  have c8 : i = 2 * fit + 5 := by omega
  have eC : Cf fit dt i = (2, gB, eB) := by unfold Cf; rw [if_neg (by omega), if_neg c3, if_neg c4, if_neg c5, if_neg c6, if_neg c7]
  have last : ∀ z : St, Jf s b n fit dt (i + 1) z := fun z => ⟨fun q => by omega, fun q => by omega, fun j hj q => by omega, fun q => by omega, fun q => by omega, fun q => by omega⟩
  by_cases f0 : fit = 0
  · refine gen (2, gB, eB) (22, noB) (P3 s b) (P3 s b) eC ?_ (fun z J => by have := J.p6 c8; rw [if_pos f0] at this; exact this) (fun z _ => last z) (fun h => stp_none h nd)
    unfold Af; rw [if_neg (by omega), if_pos c8, if_pos f0]
  · refine gen (2, gB, eB) (0, dt) (P4 s b dt) (fun _ => True) eC ?_ (fun z J => by have := J.p6 c8; rw [if_neg f0] at this; exact this) (fun z _ => last z) (fun h => stp_read h nd)
    unfold Af; rw [if_neg (by omega), if_pos c8, if_neg f0]
theorem spc_start {s b : Int} {n fit : Nat} {dt : ByteArray} (C : Cx s b n fit dt) (gd : Nat) (tv : Value) (rdf : Int → List Int) : Jf s b n fit dt 0 ⟨gd, tv, 0, 1, -1, 0, rdf, List.replicate (s * b).toNat (0, false), [], [], []⟩ :=
  ⟨fun _ => P1.start C.hg gd tv rdf, fun q => by omega, fun j hj q => by omega, fun q => by omega, fun q => by omega, fun q => by omega⟩
end Go.Proofs.YtanfhikfeabidaaGreatDoor

namespace Go.Proofs.YtanfhikfeabidaaGreatDoor
open Go Go.Eng
set_option maxRecDepth 100000
set_option maxHeartbeats 4000000
set_option linter.unusedVariables false
set_option linter.unusedSimpArgs false
theorem mkS_app (xs ys : List Int) : mkS xs ++ mkS ys = mkS (xs ++ ys) := by
  apply ba_ext
  rw [ByteArray.data_append, Array.toList_append, mkS_data, mkS_data, mkS_data, List.map_append]
theorem lwAt_6 {w : World} {F : List Nat} {v : Value} {xs : List Int} {i : Nat} (hx : u8.R w F v xs) (lx : xs.length ≤ 1000000000) (ok : ok8 xs) (hi : i ≤ 10) : Ret Tryz.prog 4 #[v, .int .i64 (i : Int), .int .i64 6] w (fun r w' => ∃ t : Nat, r = .int .i64 (t : Int) ∧ t < 6 ∧ Ch [] w w') := by
  refine enter Tryz.func4 rfl Tryz.ntmps4 (by rfl) (by rfl) ?_
  have H0 : Hold w [] w [] := Hold.start w
  refine sq (rg (r (sa rfl) (re (sq (sq (rg (r (mv rfl) (r (bi rfl rfl rfl) (re ?_)))))))))
  refine cf ((rfl : _ = Value.bool (decide ((6 : Int) ≤ 1))).trans (congrArg Value.bool (show (decide ((6 : Int) ≤ 1)) = false from (by decide)))) ?_
  refine sk (sq (sq (rg (r (mv rfl) (r (ln Tryz.underlying22 rfl ((hx.t (Hold.ch H0)))) (r (bi rfl rfl rfl) (re ?_)))))))
  refine cp rfl (fun h0 => ?_) (fun h0 => ?_)
  · refine sq (rg (r (mv rfl) (r (ml (a := (i : Int)) (b := 7) ((i : Int) * 7) rfl rfl (by omega)) (r (mv rfl) (r (rm (a := (i : Int) * 7) (b := 6) (((i * 7 % 6 : Nat) : Int)) rfl rfl ⟨by omega, by rw [Int.tmod_eq_emod_of_nonneg (by omega)]; omega⟩) (r (sa rfl) (re (rt ?_))))))))
    exact fin1 (v := .int .i64 ((i * 7 % 6 : Nat) : Int)) Tryz.results4 rfl ⟨i * 7 % 6, rfl, by omega, Hold.ch H0⟩
  · have hq := Nat.div_le_self i xs.length
    have hm := Nat.mod_lt i (show 0 < xs.length by omega)
    have hb := ok _ (List.getElem_mem hm)
    obtain ⟨y, hy⟩ : ∃ y : Nat, (y : Int) = xs[i % xs.length] := ⟨xs[i % xs.length].toNat, by omega⟩
    obtain ⟨qd, hq2⟩ : ∃ q, q = i / xs.length := ⟨_, rfl⟩
    refine sk (sq (rd mixed (by kernel_rfl) (q (mv rfl) (q (mv rfl) (q (mv rfl) (q (ln Tryz.underlying22 rfl ((hx.t (Hold.ch H0)))) (q (rm (a := (i : Int)) (b := (xs.length : Int)) (((i % xs.length : Nat) : Int)) rfl rfl ⟨by omega, by rw [Int.tmod_eq_emod_of_nonneg (by omega)]; simp⟩) ?_)))))))
    obtain ⟨c21_1, ad21_1, k21_1, e21_1, p21_1⟩ := Kd.R.place hx (i % xs.length) (hm)
    refine q (ix (j := i % xs.length) Tryz.underlying22 ti5 e21_1 rfl (hm)) (q (ld Tryz.underlying5 rfl rfl (Ch.cell (Hold.ch H0) p21_1.cell)) (q (cv ((y : Int)) Tryz.underlying5 Tryz.underlying3 rfl (by rw [hy]; exact IntWalk.i64_in _ (by omega))) (q (mv rfl) (q (mv rfl) (q (ln Tryz.underlying22 rfl ((hx.t (Hold.ch H0)))) (q (dv (a := (i : Int)) (b := (xs.length : Int)) (((qd : Nat) : Int)) rfl rfl ⟨by omega, by rw [Int.tdiv_eq_ediv_of_nonneg (by omega), hq2]; simp, by omega, by omega⟩) (q (ad (a := (y : Int)) (b := ((qd : Nat) : Int)) ((y : Int) + ((qd : Nat) : Int)) rfl rfl (by omega)) (q (mv rfl) (q (rm (a := (y : Int) + ((qd : Nat) : Int)) (b := 6) ((((y + qd) % 6 : Nat) : Int)) rfl rfl ⟨by omega, by rw [Int.tmod_eq_emod_of_nonneg (by omega)]; omega⟩) (q (sa rfl) (me ?_)))))))))))
    intro w1 c1
    have H1 : Hold w [] w1 [] := Hold.t H0 c1
    clear H0
    refine rt ?_
    exact fin1 (v := .int .i64 (((y + qd) % 6 : Nat) : Int)) Tryz.results4 rfl ⟨(y + qd) % 6, rfl, by omega, Hold.ch H1⟩
theorem lwAt_5 {w : World} {F : List Nat} {v : Value} {xs : List Int} {i : Nat} (hx : u8.R w F v xs) (lx : xs.length ≤ 1000000000) (ok : ok8 xs) (hi : i ≤ 10) : Ret Tryz.prog 4 #[v, .int .i64 (i : Int), .int .i64 5] w (fun r w' => ∃ t : Nat, r = .int .i64 (t : Int) ∧ t < 5 ∧ Ch [] w w') := by
  refine enter Tryz.func4 rfl Tryz.ntmps4 (by rfl) (by rfl) ?_
  have H0 : Hold w [] w [] := Hold.start w
  refine sq (rg (r (sa rfl) (re (sq (sq (rg (r (mv rfl) (r (bi rfl rfl rfl) (re ?_)))))))))
  refine cf ((rfl : _ = Value.bool (decide ((5 : Int) ≤ 1))).trans (congrArg Value.bool (show (decide ((5 : Int) ≤ 1)) = false from (by decide)))) ?_
  refine sk (sq (sq (rg (r (mv rfl) (r (ln Tryz.underlying22 rfl ((hx.t (Hold.ch H0)))) (r (bi rfl rfl rfl) (re ?_)))))))
  refine cp rfl (fun h0 => ?_) (fun h0 => ?_)
  · refine sq (rg (r (mv rfl) (r (ml (a := (i : Int)) (b := 7) ((i : Int) * 7) rfl rfl (by omega)) (r (mv rfl) (r (rm (a := (i : Int) * 7) (b := 5) (((i * 7 % 5 : Nat) : Int)) rfl rfl ⟨by omega, by rw [Int.tmod_eq_emod_of_nonneg (by omega)]; omega⟩) (r (sa rfl) (re (rt ?_))))))))
    exact fin1 (v := .int .i64 ((i * 7 % 5 : Nat) : Int)) Tryz.results4 rfl ⟨i * 7 % 5, rfl, by omega, Hold.ch H0⟩
  · have hq := Nat.div_le_self i xs.length
    have hm := Nat.mod_lt i (show 0 < xs.length by omega)
    have hb := ok _ (List.getElem_mem hm)
    obtain ⟨y, hy⟩ : ∃ y : Nat, (y : Int) = xs[i % xs.length] := ⟨xs[i % xs.length].toNat, by omega⟩
    obtain ⟨qd, hq2⟩ : ∃ q, q = i / xs.length := ⟨_, rfl⟩
    refine sk (sq (rd mixed (by kernel_rfl) (q (mv rfl) (q (mv rfl) (q (mv rfl) (q (ln Tryz.underlying22 rfl ((hx.t (Hold.ch H0)))) (q (rm (a := (i : Int)) (b := (xs.length : Int)) (((i % xs.length : Nat) : Int)) rfl rfl ⟨by omega, by rw [Int.tmod_eq_emod_of_nonneg (by omega)]; simp⟩) ?_)))))))
    obtain ⟨c21_1, ad21_1, k21_1, e21_1, p21_1⟩ := Kd.R.place hx (i % xs.length) (hm)
    refine q (ix (j := i % xs.length) Tryz.underlying22 ti5 e21_1 rfl (hm)) (q (ld Tryz.underlying5 rfl rfl (Ch.cell (Hold.ch H0) p21_1.cell)) (q (cv ((y : Int)) Tryz.underlying5 Tryz.underlying3 rfl (by rw [hy]; exact IntWalk.i64_in _ (by omega))) (q (mv rfl) (q (mv rfl) (q (ln Tryz.underlying22 rfl ((hx.t (Hold.ch H0)))) (q (dv (a := (i : Int)) (b := (xs.length : Int)) (((qd : Nat) : Int)) rfl rfl ⟨by omega, by rw [Int.tdiv_eq_ediv_of_nonneg (by omega), hq2]; simp, by omega, by omega⟩) (q (ad (a := (y : Int)) (b := ((qd : Nat) : Int)) ((y : Int) + ((qd : Nat) : Int)) rfl rfl (by omega)) (q (mv rfl) (q (rm (a := (y : Int) + ((qd : Nat) : Int)) (b := 5) ((((y + qd) % 5 : Nat) : Int)) rfl rfl ⟨by omega, by rw [Int.tmod_eq_emod_of_nonneg (by omega)]; omega⟩) (q (sa rfl) (me ?_)))))))))))
    intro w1 c1
    have H1 : Hold w [] w1 [] := Hold.t H0 c1
    clear H0
    refine rt ?_
    exact fin1 (v := .int .i64 (((y + qd) % 5 : Nat) : Int)) Tryz.results4 rfl ⟨(y + qd) % 5, rfl, by omega, Hold.ch H1⟩
theorem lwAt_23 {w : World} {F : List Nat} {v : Value} {xs : List Int} {i : Nat} (hx : u8.R w F v xs) (lx : xs.length ≤ 1000000000) (ok : ok8 xs) (hi : i ≤ 10) : Ret Tryz.prog 4 #[v, .int .i64 (i : Int), .int .i64 23] w (fun r w' => ∃ t : Nat, r = .int .i64 (t : Int) ∧ t < 23 ∧ Ch [] w w') := by
  refine enter Tryz.func4 rfl Tryz.ntmps4 (by rfl) (by rfl) ?_
  have H0 : Hold w [] w [] := Hold.start w
  refine sq (rg (r (sa rfl) (re (sq (sq (rg (r (mv rfl) (r (bi rfl rfl rfl) (re ?_)))))))))
  refine cf ((rfl : _ = Value.bool (decide ((23 : Int) ≤ 1))).trans (congrArg Value.bool (show (decide ((23 : Int) ≤ 1)) = false from (by decide)))) ?_
  refine sk (sq (sq (rg (r (mv rfl) (r (ln Tryz.underlying22 rfl ((hx.t (Hold.ch H0)))) (r (bi rfl rfl rfl) (re ?_)))))))
  refine cp rfl (fun h0 => ?_) (fun h0 => ?_)
  · refine sq (rg (r (mv rfl) (r (ml (a := (i : Int)) (b := 7) ((i : Int) * 7) rfl rfl (by omega)) (r (mv rfl) (r (rm (a := (i : Int) * 7) (b := 23) (((i * 7 % 23 : Nat) : Int)) rfl rfl ⟨by omega, by rw [Int.tmod_eq_emod_of_nonneg (by omega)]; omega⟩) (r (sa rfl) (re (rt ?_))))))))
    exact fin1 (v := .int .i64 ((i * 7 % 23 : Nat) : Int)) Tryz.results4 rfl ⟨i * 7 % 23, rfl, by omega, Hold.ch H0⟩
  · have hq := Nat.div_le_self i xs.length
    have hm := Nat.mod_lt i (show 0 < xs.length by omega)
    have hb := ok _ (List.getElem_mem hm)
    obtain ⟨y, hy⟩ : ∃ y : Nat, (y : Int) = xs[i % xs.length] := ⟨xs[i % xs.length].toNat, by omega⟩
    obtain ⟨qd, hq2⟩ : ∃ q, q = i / xs.length := ⟨_, rfl⟩
    refine sk (sq (rd mixed (by kernel_rfl) (q (mv rfl) (q (mv rfl) (q (mv rfl) (q (ln Tryz.underlying22 rfl ((hx.t (Hold.ch H0)))) (q (rm (a := (i : Int)) (b := (xs.length : Int)) (((i % xs.length : Nat) : Int)) rfl rfl ⟨by omega, by rw [Int.tmod_eq_emod_of_nonneg (by omega)]; simp⟩) ?_)))))))
    obtain ⟨c21_1, ad21_1, k21_1, e21_1, p21_1⟩ := Kd.R.place hx (i % xs.length) (hm)
    refine q (ix (j := i % xs.length) Tryz.underlying22 ti5 e21_1 rfl (hm)) (q (ld Tryz.underlying5 rfl rfl (Ch.cell (Hold.ch H0) p21_1.cell)) (q (cv ((y : Int)) Tryz.underlying5 Tryz.underlying3 rfl (by rw [hy]; exact IntWalk.i64_in _ (by omega))) (q (mv rfl) (q (mv rfl) (q (ln Tryz.underlying22 rfl ((hx.t (Hold.ch H0)))) (q (dv (a := (i : Int)) (b := (xs.length : Int)) (((qd : Nat) : Int)) rfl rfl ⟨by omega, by rw [Int.tdiv_eq_ediv_of_nonneg (by omega), hq2]; simp, by omega, by omega⟩) (q (ad (a := (y : Int)) (b := ((qd : Nat) : Int)) ((y : Int) + ((qd : Nat) : Int)) rfl rfl (by omega)) (q (mv rfl) (q (rm (a := (y : Int) + ((qd : Nat) : Int)) (b := 23) ((((y + qd) % 23 : Nat) : Int)) rfl rfl ⟨by omega, by rw [Int.tmod_eq_emod_of_nonneg (by omega)]; omega⟩) (q (sa rfl) (me ?_)))))))))))
    intro w1 c1
    have H1 : Hold w [] w1 [] := Hold.t H0 c1
    clear H0
    refine rt ?_
    exact fin1 (v := .int .i64 (((y + qd) % 23 : Nat) : Int)) Tryz.results4 rfl ⟨(y + qd) % 23, rfl, by omega, Hold.ch H1⟩
theorem lwAt_16 {w : World} {F : List Nat} {v : Value} {xs : List Int} {i : Nat} (hx : u8.R w F v xs) (lx : xs.length ≤ 1000000000) (ok : ok8 xs) (hi : i ≤ 10) : Ret Tryz.prog 4 #[v, .int .i64 (i : Int), .int .i64 16] w (fun r w' => ∃ t : Nat, r = .int .i64 (t : Int) ∧ t < 16 ∧ Ch [] w w') := by
  refine enter Tryz.func4 rfl Tryz.ntmps4 (by rfl) (by rfl) ?_
  have H0 : Hold w [] w [] := Hold.start w
  refine sq (rg (r (sa rfl) (re (sq (sq (rg (r (mv rfl) (r (bi rfl rfl rfl) (re ?_)))))))))
  refine cf ((rfl : _ = Value.bool (decide ((16 : Int) ≤ 1))).trans (congrArg Value.bool (show (decide ((16 : Int) ≤ 1)) = false from (by decide)))) ?_
  refine sk (sq (sq (rg (r (mv rfl) (r (ln Tryz.underlying22 rfl ((hx.t (Hold.ch H0)))) (r (bi rfl rfl rfl) (re ?_)))))))
  refine cp rfl (fun h0 => ?_) (fun h0 => ?_)
  · refine sq (rg (r (mv rfl) (r (ml (a := (i : Int)) (b := 7) ((i : Int) * 7) rfl rfl (by omega)) (r (mv rfl) (r (rm (a := (i : Int) * 7) (b := 16) (((i * 7 % 16 : Nat) : Int)) rfl rfl ⟨by omega, by rw [Int.tmod_eq_emod_of_nonneg (by omega)]; omega⟩) (r (sa rfl) (re (rt ?_))))))))
    exact fin1 (v := .int .i64 ((i * 7 % 16 : Nat) : Int)) Tryz.results4 rfl ⟨i * 7 % 16, rfl, by omega, Hold.ch H0⟩
  · have hq := Nat.div_le_self i xs.length
    have hm := Nat.mod_lt i (show 0 < xs.length by omega)
    have hb := ok _ (List.getElem_mem hm)
    obtain ⟨y, hy⟩ : ∃ y : Nat, (y : Int) = xs[i % xs.length] := ⟨xs[i % xs.length].toNat, by omega⟩
    obtain ⟨qd, hq2⟩ : ∃ q, q = i / xs.length := ⟨_, rfl⟩
    refine sk (sq (rd mixed (by kernel_rfl) (q (mv rfl) (q (mv rfl) (q (mv rfl) (q (ln Tryz.underlying22 rfl ((hx.t (Hold.ch H0)))) (q (rm (a := (i : Int)) (b := (xs.length : Int)) (((i % xs.length : Nat) : Int)) rfl rfl ⟨by omega, by rw [Int.tmod_eq_emod_of_nonneg (by omega)]; simp⟩) ?_)))))))
    obtain ⟨c21_1, ad21_1, k21_1, e21_1, p21_1⟩ := Kd.R.place hx (i % xs.length) (hm)
    refine q (ix (j := i % xs.length) Tryz.underlying22 ti5 e21_1 rfl (hm)) (q (ld Tryz.underlying5 rfl rfl (Ch.cell (Hold.ch H0) p21_1.cell)) (q (cv ((y : Int)) Tryz.underlying5 Tryz.underlying3 rfl (by rw [hy]; exact IntWalk.i64_in _ (by omega))) (q (mv rfl) (q (mv rfl) (q (ln Tryz.underlying22 rfl ((hx.t (Hold.ch H0)))) (q (dv (a := (i : Int)) (b := (xs.length : Int)) (((qd : Nat) : Int)) rfl rfl ⟨by omega, by rw [Int.tdiv_eq_ediv_of_nonneg (by omega), hq2]; simp, by omega, by omega⟩) (q (ad (a := (y : Int)) (b := ((qd : Nat) : Int)) ((y : Int) + ((qd : Nat) : Int)) rfl rfl (by omega)) (q (mv rfl) (q (rm (a := (y : Int) + ((qd : Nat) : Int)) (b := 16) ((((y + qd) % 16 : Nat) : Int)) rfl rfl ⟨by omega, by rw [Int.tmod_eq_emod_of_nonneg (by omega)]; omega⟩) (q (sa rfl) (me ?_)))))))))))
    intro w1 c1
    have H1 : Hold w [] w1 [] := Hold.t H0 c1
    clear H0
    refine rt ?_
    exact fin1 (v := .int .i64 (((y + qd) % 16 : Nat) : Int)) Tryz.results4 rfl ⟨(y + qd) % 16, rfl, by omega, Hold.ch H1⟩
theorem lwAt_8 {w : World} {F : List Nat} {v : Value} {xs : List Int} {i : Nat} (hx : u8.R w F v xs) (lx : xs.length ≤ 1000000000) (ok : ok8 xs) (hi : i ≤ 10) : Ret Tryz.prog 4 #[v, .int .i64 (i : Int), .int .i64 8] w (fun r w' => ∃ t : Nat, r = .int .i64 (t : Int) ∧ t < 8 ∧ Ch [] w w') := by
  refine enter Tryz.func4 rfl Tryz.ntmps4 (by rfl) (by rfl) ?_
  have H0 : Hold w [] w [] := Hold.start w
  refine sq (rg (r (sa rfl) (re (sq (sq (rg (r (mv rfl) (r (bi rfl rfl rfl) (re ?_)))))))))
  refine cf ((rfl : _ = Value.bool (decide ((8 : Int) ≤ 1))).trans (congrArg Value.bool (show (decide ((8 : Int) ≤ 1)) = false from (by decide)))) ?_
  refine sk (sq (sq (rg (r (mv rfl) (r (ln Tryz.underlying22 rfl ((hx.t (Hold.ch H0)))) (r (bi rfl rfl rfl) (re ?_)))))))
  refine cp rfl (fun h0 => ?_) (fun h0 => ?_)
  · refine sq (rg (r (mv rfl) (r (ml (a := (i : Int)) (b := 7) ((i : Int) * 7) rfl rfl (by omega)) (r (mv rfl) (r (rm (a := (i : Int) * 7) (b := 8) (((i * 7 % 8 : Nat) : Int)) rfl rfl ⟨by omega, by rw [Int.tmod_eq_emod_of_nonneg (by omega)]; omega⟩) (r (sa rfl) (re (rt ?_))))))))
    exact fin1 (v := .int .i64 ((i * 7 % 8 : Nat) : Int)) Tryz.results4 rfl ⟨i * 7 % 8, rfl, by omega, Hold.ch H0⟩
  · have hq := Nat.div_le_self i xs.length
    have hm := Nat.mod_lt i (show 0 < xs.length by omega)
    have hb := ok _ (List.getElem_mem hm)
    obtain ⟨y, hy⟩ : ∃ y : Nat, (y : Int) = xs[i % xs.length] := ⟨xs[i % xs.length].toNat, by omega⟩
    obtain ⟨qd, hq2⟩ : ∃ q, q = i / xs.length := ⟨_, rfl⟩
    refine sk (sq (rd mixed (by kernel_rfl) (q (mv rfl) (q (mv rfl) (q (mv rfl) (q (ln Tryz.underlying22 rfl ((hx.t (Hold.ch H0)))) (q (rm (a := (i : Int)) (b := (xs.length : Int)) (((i % xs.length : Nat) : Int)) rfl rfl ⟨by omega, by rw [Int.tmod_eq_emod_of_nonneg (by omega)]; simp⟩) ?_)))))))
    obtain ⟨c21_1, ad21_1, k21_1, e21_1, p21_1⟩ := Kd.R.place hx (i % xs.length) (hm)
    refine q (ix (j := i % xs.length) Tryz.underlying22 ti5 e21_1 rfl (hm)) (q (ld Tryz.underlying5 rfl rfl (Ch.cell (Hold.ch H0) p21_1.cell)) (q (cv ((y : Int)) Tryz.underlying5 Tryz.underlying3 rfl (by rw [hy]; exact IntWalk.i64_in _ (by omega))) (q (mv rfl) (q (mv rfl) (q (ln Tryz.underlying22 rfl ((hx.t (Hold.ch H0)))) (q (dv (a := (i : Int)) (b := (xs.length : Int)) (((qd : Nat) : Int)) rfl rfl ⟨by omega, by rw [Int.tdiv_eq_ediv_of_nonneg (by omega), hq2]; simp, by omega, by omega⟩) (q (ad (a := (y : Int)) (b := ((qd : Nat) : Int)) ((y : Int) + ((qd : Nat) : Int)) rfl rfl (by omega)) (q (mv rfl) (q (rm (a := (y : Int) + ((qd : Nat) : Int)) (b := 8) ((((y + qd) % 8 : Nat) : Int)) rfl rfl ⟨by omega, by rw [Int.tmod_eq_emod_of_nonneg (by omega)]; omega⟩) (q (sa rfl) (me ?_)))))))))))
    intro w1 c1
    have H1 : Hold w [] w1 [] := Hold.t H0 c1
    clear H0
    refine rt ?_
    exact fin1 (v := .int .i64 (((y + qd) % 8 : Nat) : Int)) Tryz.results4 rfl ⟨(y + qd) % 8, rfl, by omega, Hold.ch H1⟩
theorem lwDec_1 {w : World} {i : Nat} (hi : i < 10) : Ret Tryz.prog 5 #[.int .i64 (i : Int)] w (fun r w' => r = .string (mkS (decL i)) ∧ Ch [] w w') := by
  refine enter Tryz.func5 rfl Tryz.ntmps5 (by rfl) (by rfl) ?_
  have H0 : Hold w [] w [] := Hold.start w
  refine sq (rg (r (sa rfl) (re (sq (sq (rg (r (mv rfl) (r (bi rfl rfl rfl) (re ?_)))))))))
  refine ct ((rfl : _ = Value.bool (decide ((i : Int) < 10))).trans (congrArg Value.bool (show (decide ((i : Int) < 10)) = true from (decide_eq_true (by omega))))) ?_
  refine sq (rg (r (mv rfl) (r (ad (a := 48) (b := (i : Int)) (48 + (i : Int)) rfl rfl (by omega)) (r (cv (48 + (i : Int)) Tryz.underlying2 Tryz.underlying5 rfl (by rw [u8_in] <;> omega)) (ef (bsm (cs := [.int .u8 (48 + (i : Int))]) Tryz.underlying22 ti5 rfl (by rfl) (pc rfl (cel1 rfl) pn) rfl) ?_)))))
  rintro _ w1 ⟨g8, e1, rfl, -, b1, c1⟩
  have H1 : Hold w [] w1 [rB g8 5 ([.int .u8 (48 + (i : Int))])] := Hold.newB H0 e1 b1 c1
  clear H0
  clear e1 b1 c1
  have b2 : B w1 g8 5 ([.int .u8 (48 + (i : Int))]) := Hold.blk H1 0 rfl
  refine r (cvbs Tryz.underlying22 Tryz.underlying5 Tryz.underlying9 (row_of_B (dk := u8) (xs := [48 + (i : Int)]) b2 (els_int [48 + (i : Int)]) (Nat.le_of_ble_eq_true rfl)).R rfl) (r (sa rfl) (re (rt ?_)))
  exact fin1 (v := .string (mkS ([48 + (i : Int)]))) Tryz.results5 rfl ⟨(by rw [decL, if_pos hi]), Hold.ch H1⟩
theorem lwDec_2 {w : World} {i : Nat} (hi : i < 100) : Ret Tryz.prog 5 #[.int .i64 (i : Int)] w (fun r w' => r = .string (mkS (decL i)) ∧ Ch [] w w') := by
  refine enter Tryz.func5 rfl Tryz.ntmps5 (by rfl) (by rfl) ?_
  have H0 : Hold w [] w [] := Hold.start w
  refine sq (rg (r (sa rfl) (re (sq (sq (rg (r (mv rfl) (r (bi rfl rfl rfl) (re ?_)))))))))
  refine cp rfl (fun h1 => ?_) (fun h1 => ?_)
  · refine sq (rg (r (mv rfl) (r (ad (a := 48) (b := (i : Int)) (48 + (i : Int)) rfl rfl (by omega)) (r (cv (48 + (i : Int)) Tryz.underlying2 Tryz.underlying5 rfl (by rw [u8_in] <;> omega)) (ef (bsm (cs := [.int .u8 (48 + (i : Int))]) Tryz.underlying22 ti5 rfl (by rfl) (pc rfl (cel1 rfl) pn) rfl) ?_)))))
    rintro _ w1 ⟨g8, e1, rfl, -, b1, c1⟩
    have H1 : Hold w [] w1 [rB g8 5 ([.int .u8 (48 + (i : Int))])] := Hold.newB H0 e1 b1 c1
    clear H0
    clear e1 b1 c1
    have b2 : B w1 g8 5 ([.int .u8 (48 + (i : Int))]) := Hold.blk H1 0 rfl
    refine r (cvbs Tryz.underlying22 Tryz.underlying5 Tryz.underlying9 (row_of_B (dk := u8) (xs := [48 + (i : Int)]) b2 (els_int [48 + (i : Int)]) (Nat.le_of_ble_eq_true rfl)).R rfl) (r (sa rfl) (re (rt ?_)))
    exact fin1 (v := .string (mkS ([48 + (i : Int)]))) Tryz.results5 rfl ⟨(by rw [decL, if_pos (by omega)]), Hold.ch H1⟩
  · have hq : i / 10 < 10 := by omega
    have e1 : mkS (decL (i / 10)) ++ mkS [48 + ((i % 10 : Nat) : Int)] = mkS (decL i) := by
      rw [mkS_app]; congr 1; unfold decL; rw [if_pos hq, if_neg (by omega)]; try rfl
    have e2 : (mkS (decL (i / 10))).size = 1 := by rw [mkS_size]; unfold decL; rw [if_pos hq]; try rfl
    have e3 : (mkS [48 + ((i % 10 : Nat) : Int)]).size = 1 := by rw [mkS_size]; try rfl
    refine sk (sq ?_)
    refine rde mixed ?_
    intro w1 c1
    have H1 : Hold w [] w1 [] := Hold.t H0 c1
    clear H0
    clear c1
    have H2d0 : Hold w1 [] w1 [] := Hold.start w1
    refine ⟨fun w' => Ch [] w1 w', Ch.refl _ _, ?_⟩
    refine edt 0 rfl (by kernel_rfl) (fun w' hS => mv rfl) (edt 1 rfl (by kernel_rfl) (fun w' hS => dv (a := (i : Int)) (b := 10) (((i / 10 : Nat) : Int)) rfl rfl ⟨by omega, by rw [Int.tdiv_eq_ediv_of_nonneg (by omega)]; omega, by omega, by omega⟩) (edt 3 rfl (by kernel_rfl) (fun w' hS => mv rfl) (edt 4 rfl (by kernel_rfl) (fun w' hS => rm (a := (i : Int)) (b := 10) (((i % 10 : Nat) : Int)) rfl rfl ⟨by omega, by rw [Int.tmod_eq_emod_of_nonneg (by omega)]; omega⟩) (edt 5 rfl (by kernel_rfl) (fun w' hS => ad (a := 48) (b := ((i % 10 : Nat) : Int)) (48 + ((i % 10 : Nat) : Int)) rfl rfl (by omega)) (edt 6 rfl (by kernel_rfl) (fun w' hS => cv (48 + ((i % 10 : Nat) : Int)) Tryz.underlying2 Tryz.underlying5 rfl (by rw [u8_in] <;> omega)) ?_)))))
    refine ed2 2 7 (by kernel_rfl) ?_ ?_
    · refine euc rfl go5 (ac rfl an) (lwDec_1 hq) ?_
      rintro r wd ⟨rfl, cd⟩
      have H2d : Hold w1 [] wd [] := Hold.t H2d0 cd
      clear H2d0
      clear cd
      refine ⟨.inr (Hold.ch H2d), ?_⟩
      refine ed1 7 (by kernel_rfl) <| euf rfl (bsm (cs := [.int .u8 (48 + ((i % 10 : Nat) : Int))]) Tryz.underlying22 ti5 rfl (by rfl) (pc rfl (cel1 rfl) pn) rfl) ?_
      rintro _ w4 ⟨g17, e4, rfl, -, b4, c4⟩
      have H3d : Hold w1 [] w4 [rB g17 5 ([.int .u8 (48 + ((i % 10 : Nat) : Int))])] := Hold.newB H2d e4 b4 c4
      clear H2d
      clear e4 b4 c4
      refine ⟨.inr (Hold.ch H3d), ?_⟩
      have b5 : B w4 g17 5 ([.int .u8 (48 + ((i % 10 : Nat) : Int))]) := Hold.blk H3d 0 rfl
      refine ed1 8 (by kernel_rfl) <| eur rfl (cvbs Tryz.underlying22 Tryz.underlying5 Tryz.underlying9 (row_of_B (dk := u8) (xs := [48 + ((i % 10 : Nat) : Int)]) b5 (els_int [48 + ((i % 10 : Nat) : Int)]) (Nat.le_of_ble_eq_true rfl)).R rfl) (.inr (Hold.ch H3d)) ?_
      refine edt 9 rfl (by kernel_rfl) (fun w' hS => sct rfl rfl (by omega)) ?_
      have H4 : Hold w [] w4 [rB g17 5 ([.int .u8 (48 + ((i % 10 : Nat) : Int))])] := Hold.news H1 H3d
      clear H3d H1
      refine ed1 10 (by kernel_rfl) <| eur rfl (sa rfl) (.inl (by kernel_rfl)) ?_
      refine edd (by kernel_rfl) ?_
      refine rt ?_
      exact fin1 (v := .string ((mkS (decL (i / 10))) ++ (mkS ([48 + ((i % 10 : Nat) : Int)])))) Tryz.results5 rfl ⟨(by rw [e1]), Hold.ch H4⟩
    · refine euf rfl (bsm (cs := [.int .u8 (48 + ((i % 10 : Nat) : Int))]) Tryz.underlying22 ti5 rfl (by rfl) (pc rfl (cel1 rfl) pn) rfl) ?_
      rintro _ w3 ⟨g17, e3, rfl, -, b3, c3⟩
      have H2d : Hold w1 [] w3 [rB g17 5 ([.int .u8 (48 + ((i % 10 : Nat) : Int))])] := Hold.newB H2d0 e3 b3 c3
      clear H2d0
      clear e3 b3 c3
      refine ⟨.inr (Hold.ch H2d), ?_⟩
      refine ed2 2 8 (by kernel_rfl) ?_ ?_
      · refine euc rfl go5 (ac rfl an) (lwDec_1 hq) ?_
        rintro r wd ⟨rfl, cd⟩
        have H3d : Hold w1 [] wd [rB g17 5 ([.int .u8 (48 + ((i % 10 : Nat) : Int))])] := Hold.t H2d cd
        clear H2d
        clear cd
        refine ⟨.inr (Hold.ch H3d), ?_⟩
        have b5 : B wd g17 5 ([.int .u8 (48 + ((i % 10 : Nat) : Int))]) := Hold.blk H3d 0 rfl
        refine ed1 8 (by kernel_rfl) <| eur rfl (cvbs Tryz.underlying22 Tryz.underlying5 Tryz.underlying9 (row_of_B (dk := u8) (xs := [48 + ((i % 10 : Nat) : Int)]) b5 (els_int [48 + ((i % 10 : Nat) : Int)]) (Nat.le_of_ble_eq_true rfl)).R rfl) (.inr (Hold.ch H3d)) ?_
        refine edt 9 rfl (by kernel_rfl) (fun w' hS => sct rfl rfl (by omega)) ?_
        have H4 : Hold w [] wd [rB g17 5 ([.int .u8 (48 + ((i % 10 : Nat) : Int))])] := Hold.news H1 H3d
        clear H3d H1
        refine ed1 10 (by kernel_rfl) <| eur rfl (sa rfl) (.inl (by kernel_rfl)) ?_
        refine edd (by kernel_rfl) ?_
        refine rt ?_
        exact fin1 (v := .string ((mkS (decL (i / 10))) ++ (mkS ([48 + ((i % 10 : Nat) : Int)])))) Tryz.results5 rfl ⟨(by rw [e1]), Hold.ch H4⟩
      · have b4 : B w3 g17 5 ([.int .u8 (48 + ((i % 10 : Nat) : Int))]) := Hold.blk H2d 0 rfl
        refine eur rfl (cvbs Tryz.underlying22 Tryz.underlying5 Tryz.underlying9 (row_of_B (dk := u8) (xs := [48 + ((i % 10 : Nat) : Int)]) b4 (els_int [48 + ((i % 10 : Nat) : Int)]) (Nat.le_of_ble_eq_true rfl)).R rfl) (.inr (Hold.ch H2d)) ?_
        refine ed1 2 (by kernel_rfl) <| euc rfl go5 (ac rfl an) (lwDec_1 hq) ?_
        rintro r wd ⟨rfl, cd⟩
        have H3d : Hold w1 [] wd [rB g17 5 ([.int .u8 (48 + ((i % 10 : Nat) : Int))])] := Hold.t H2d cd
        clear H2d
        clear cd
        refine ⟨.inr (Hold.ch H3d), ?_⟩
        refine edt 9 rfl (by kernel_rfl) (fun w' hS => sct rfl rfl (by omega)) ?_
        have H4 : Hold w [] wd [rB g17 5 ([.int .u8 (48 + ((i % 10 : Nat) : Int))])] := Hold.news H1 H3d
        clear H3d H1
        refine ed1 10 (by kernel_rfl) <| eur rfl (sa rfl) (.inl (by kernel_rfl)) ?_
        refine edd (by kernel_rfl) ?_
        refine rt ?_
        exact fin1 (v := .string ((mkS (decL (i / 10))) ++ (mkS ([48 + ((i % 10 : Nat) : Int)])))) Tryz.results5 rfl ⟨(by rw [e1]), Hold.ch H4⟩
end Go.Proofs.YtanfhikfeabidaaGreatDoor

namespace Go.Proofs.YtanfhikfeabidaaGreatDoor
open Go Go.Eng
set_option maxRecDepth 100000
set_option maxHeartbeats 4000000
set_option linter.unusedVariables false
set_option linter.unusedSimpArgs false
theorem ok8_ws {xs : List Int} (h : ∀ x, x ∈ xs → (Lit.int .u8 x).wf = true) : ok8 xs := fun x hx => by
  have := h x hx
  simp [Lit.wf, IntKind.min, IntKind.max, IntKind.signed, IntKind.bits] at this
  omega
def dN : Nat → ByteArray
  | 0 => ⟨#[]⟩
  | j + 1 => dN j ++ (⟨#[48, 49, 50, 51, 52, 53, 54, 55, 56, 57, 97, 98, 99, 100, 101, 102]⟩ : ByteArray)
theorem dN_size : ∀ j, (dN j).size = 16 * j
  | 0 => rfl
  | j + 1 => by
    rw [dN, ByteArray.size_append, dN_size j]
    show 16 * j + 16 = _
    omega
theorem fit_of {s b : Int} {n : Nat} (hg : geo s b) (h1 : 1 ≤ n) (h : s * b - 2 * b ≤ 62 * (n : Int)) : ∃ fit : Nat, (s * b - 2 * b).tdiv (n : Int) = (fit : Int) ∧ ((fit * n : Nat) : Int) ≤ s * b - 2 * b ∧ s * b - 2 * b < ((fit * n : Nat) : Int) + n ∧ fit ≤ 62 := by
  have hg2 := hg
  unfold geo at hg2
  have hr : 0 ≤ s * b - 2 * b := by rw [← Int.sub_mul]; exact Int.mul_nonneg (by omega) (by omega)
  have h2 : 0 ≤ (s * b - 2 * b) / (n : Int) := Int.ediv_nonneg hr (by omega)
  have h3 := Int.ediv_mul_le (s * b - 2 * b) (show (n : Int) ≠ 0 by omega)
  have h4 := Int.lt_ediv_add_one_mul_self (s * b - 2 * b) (show 0 < (n : Int) by omega)
  have h5 := Int.ediv_le_of_le_mul (show 0 < (n : Int) by omega) h
  refine ⟨((s * b - 2 * b) / (n : Int)).toNat, by rw [Int.tdiv_eq_ediv_of_nonneg hr, Int.toNat_of_nonneg h2], ?_, ?_, by omega⟩
  · rw [Int.natCast_mul, Int.toNat_of_nonneg h2]; exact h3
  · rw [Int.natCast_mul, Int.toNat_of_nonneg h2]
    rw [Int.add_mul, Int.one_mul] at h4; exact h4
theorem geo_small {x y : Nat} (hx : x < 6) (hy : y < 5) : geo ((4 + x : Nat) : Int) ((2 + y : Nat) : Int) ∧ ((4 + x : Nat) : Int) * ((2 + y : Nat) : Int) - 2 * ((2 + y : Nat) : Int) ≤ 42 := by
  refine ⟨by unfold geo; omega, ?_⟩
  rw [← Int.sub_mul]
  have := Int.mul_le_mul (show ((4 + x : Nat) : Int) - 2 ≤ 7 by omega) (show ((2 + y : Nat) : Int) ≤ 6 by omega) (by omega) (by omega)
  omega
theorem Cs_snoc {fit i : Nat} {dt : ByteArray} {c : Int × ByteArray × ByteArray} (h : Cf fit dt i = c) : (List.range i).map (Cf fit dt) ++ [c] = (List.range (i + 1)).map (Cf fit dt) := by
  rw [List.range_succ, List.map_append, List.map_cons, List.map_nil, h]
theorem As_get {fit i : Nat} {dt : ByteArray} {a : Int × ByteArray} (h : i < ((List.range (2 * fit + 6)).map (Af fit dt)).length) (e : Af fit dt i = a) : ((List.range (2 * fit + 6)).map (Af fit dt))[i] = a := by
  rw [← e]; simp
theorem As_want {fit i : Nat} {dt : ByteArray} (h : i < 2 * fit + 2) : (Af fit dt i).1 = if i = fit then 24 else 0 := by
  unfold Af
  by_cases e : i = fit
  · rw [if_pos (.inl e), if_pos e]
  · rw [if_neg (by omega), if_neg (by omega), if_neg e]
theorem Af_2 {fit : Nat} {dt : ByteArray} : Af fit dt (2 * fit + 2) = (24, noB) := if_pos (.inr (.inl rfl))
theorem Af_3 {fit : Nat} {dt : ByteArray} : Af fit dt (2 * fit + 3) = (0, noB) := by unfold Af; rw [if_neg (by omega), if_neg (by omega)]
theorem Af_4z {fit : Nat} {dt : ByteArray} (h : fit = 0) : Af fit dt (2 * fit + 4) = (24, noB) := if_pos (.inr (.inr ⟨rfl, h⟩))
theorem Af_4 {fit : Nat} {dt : ByteArray} (h : ¬ fit = 0) : Af fit dt (2 * fit + 4) = (0, noB) := by unfold Af; rw [if_neg (by omega), if_neg (by omega)]
theorem Af_5 {fit : Nat} {dt : ByteArray} (h : ¬ fit = 0) : Af fit dt (2 * fit + 5) = (0, dt) := by unfold Af; rw [if_neg (by omega), if_pos rfl, if_neg h]
theorem w_FnSpace {w : World} {F : List Nat} {v : Value} {xs : List Int} (hx : u8.R w F v xs) (l0 : xs.length ≤ 9223372036854775807) (ok : ok8 xs) : Ret Tryz.prog 3 #[v] w (fun r w' => r = .bool true ∧ Ch [] w w') := by
  refine enter Tryz.func3 rfl Tryz.ntmps3 (by rfl) (by rfl) ?_
  have H0 : Hold w [] w [] := Hold.start w
  refine sq (rg (r (sa rfl) (re (sq (sq (rg (r (mv rfl) (r (ln Tryz.underlying22 rfl ((hx.t (Hold.ch H0)))) (r (bi rfl rfl rfl) (re ?_))))))))))
  refine cp rfl (fun hlx => ?_) (fun hlx => ?_)
  · refine sq (rg (r (sa rfl) (re (rt ?_))))
    exact fin1 (v := .bool true) Tryz.results3 rfl ⟨rfl, Hold.ch H0⟩
  · have lx : xs.length ≤ 1000000000 := by omega
    refine sk (sq (rg (r (mv rfl) (cl go4 (lwAt_6 (i := 0) (hx.t (Hold.ch H0)) lx ok (by omega)) (ac rfl (ac rfl (ac rfl an))) ?_))))
    rintro r wt1 ⟨x1, rfl, hx1, ct1⟩
    have H1 : Hold w [] wt1 [] := Hold.t H0 ct1
    clear H0
    clear ct1
    refine r (ad (a := 4) (b := (x1 : Int)) (((4 + x1 : Nat) : Int)) rfl rfl (by omega)) (r (mv rfl) (cl go4 (lwAt_5 (i := 1) (hx.t (Hold.ch H1)) lx ok (by omega)) (ac rfl (ac rfl (ac rfl an))) ?_))
    rintro r wt2 ⟨x2, rfl, hx2, ct2⟩
    have H2 : Hold w [] wt2 [] := Hold.t H1 ct2
    clear H1
    clear ct2
    refine r (ad (a := 2) (b := (x2 : Int)) (((2 + x2 : Nat) : Int)) rfl rfl (by omega)) (r (bd (r := [.int .i64 ((4 + x1 : Nat) : Int), .int .i64 ((2 + x2 : Nat) : Int)]) ti25 pl25 (pc rfl (cel1 rfl) (pc rfl (cel1 rfl) pn)) rfl) (ef (xal ti25) ?_))
    rintro _ w3 ⟨g3, e3, rfl, -, b3, c3⟩
    have H3 : Hold w [] w3 [rB g3 25 ([.int .i64 0, .int .i64 0])] := Hold.newB H2 e3 b3 c3
    clear H2
    clear e3 b3 c3
    have b4 : B w3 g3 25 ([.int .i64 0, .int .i64 0]) := Hold.blk H3 0 rfl
    refine ef0 (xst (vs := [.int .i64 ((4 + x1 : Nat) : Int), .int .i64 ((2 + x2 : Nat) : Int)]) ti25 rfl rfl rfl b4 rfl (Nat.le_of_ble_eq_true rfl) (one_all rfl)) ?_
    rintro w5 ⟨-, b5, c5⟩
    have H4 : Hold w [] w5 [rB g3 25 ([.int .i64 ((4 + x1 : Nat) : Int), .int .i64 ((2 + x2 : Nat) : Int)])] := Hold.setB H3 0 rfl b5 c5 rfl
    clear H3
    clear b5 c5
    refine re (sq ?_)
    refine gen (fun ρ => ρ 0 = v ∧ ρ 2 = .bool false ∧ ρ 3 = .pointer (some ⟨g3, 0, none⟩) ∧ True) ⟨rfl, rfl, rfl, trivial⟩ ?_
    rintro ρ ⟨z0, z2, z3, -⟩
    refine rg (r (mv z0) (cl go4 (lwAt_23 (i := 2) (hx.t (Hold.ch H4)) lx ok (by omega)) (ac rfl (ac rfl (ac rfl an))) ?_))
    rintro r wt3 ⟨x3, rfl, hx3, ct3⟩
    have H5 : Hold w [] wt3 [rB g3 25 ([.int .i64 ((4 + x1 : Nat) : Int), .int .i64 ((2 + x2 : Nat) : Int)])] := Hold.t H4 ct3
    clear H4
    clear ct3
    refine r (ad (a := 1) (b := (x3 : Int)) (((1 + x3 : Nat) : Int)) rfl rfl (by omega)) (r (sa rfl) (re (sq (sq (rg (r (mv z0) (cl go4 (lwAt_16 (i := 3) (hx.t (Hold.ch H5)) lx ok (by omega)) (ac rfl (ac rfl (ac rfl an))) ?_)))))))
    rintro r wt4 ⟨x4, rfl, hx4, ct4⟩
    have H6 : Hold w [] wt4 [rB g3 25 ([.int .i64 ((4 + x1 : Nat) : Int), .int .i64 ((2 + x2 : Nat) : Int)])] := Hold.t H5 ct4
    clear H5
    clear ct4
    refine r (bi rfl rfl rfl) (re ?_)
    refine jn (α := Int × Int × Nat) (fun (s, b, n) ρ w' => ρ 2 = .bool false ∧ ρ 3 = .pointer (some ⟨g3, 0, none⟩) ∧ ρ 4 = .int .i64 (n : Int) ∧ Hold w [] w' [rB g3 25 ([.int .i64 s, .int .i64 b])] ∧ geo s b ∧ 1 ≤ n ∧ n ≤ 23 ∧ s * b - 2 * b ≤ 62 * (n : Int)) ?_ ?_
    · refine cp rfl (fun h4 => ?_) (fun h4 => ?_)
      · have b8 : B wt4 g3 25 ([.int .i64 ((4 + x1 : Nat) : Int), .int .i64 ((2 + x2 : Nat) : Int)]) := Hold.blk H6 0 rfl
        refine sq (rg (r (bd (r := [.int .i64 64, .int .i64 16]) ti25 pl25 (pc rfl (cel1 rfl) (pc rfl (cel1 rfl) pn)) rfl) (ef0 (xst (vs := [.int .i64 64, .int .i64 16]) ti25 z3 rfl rfl b8 rfl (Nat.le_of_ble_eq_true rfl) (one_all rfl)) ?_)))
        rintro w9 ⟨-, b9, c9⟩
        have H7 : Hold w [] w9 [rB g3 25 ([.int .i64 64, .int .i64 16])] := Hold.setB H6 0 rfl b9 c9 rfl
        clear H6
        clear b9 c9
        refine re (rg (r (mv z0) (cl go4 (lwAt_8 (i := 2) (hx.t (Hold.ch H7)) lx ok (by omega)) (ac rfl (ac rfl (ac rfl an))) ?_)))
        rintro r wt5 ⟨x5, rfl, hx5, ct5⟩
        have H8 : Hold w [] wt5 [rB g3 25 ([.int .i64 64, .int .i64 16])] := Hold.t H7 ct5
        clear H7
        clear ct5
        refine r (ad (a := 16) (b := (x5 : Int)) (((16 + x5 : Nat) : Int)) rfl rfl (by omega)) (r (sa rfl) (re ?_))
        exact je (64, 16, 16 + x5) ⟨z2, z3, rfl, H8, ⟨by unfold geo; omega, by omega, by omega, by omega⟩⟩
      · obtain ⟨hgs, hgm⟩ := geo_small hx1 hx2
        refine sk ?_
        exact je (((4 + x1 : Nat) : Int), ((2 + x2 : Nat) : Int), 1 + x3) ⟨z2, z3, rfl, H6, ⟨hgs, by omega, by omega, by omega⟩⟩
    · rintro ⟨s, b, n⟩ ρ w566 ⟨y2, y3, y4, H66, ⟨hg, hn1, hn2, hfit⟩⟩
      clear H6
      have hm := geo_mul hg
      have hg2 := hg
      unfold geo at hg2
      obtain ⟨fit, hft, hf1, hf2, hf3⟩ := fit_of hg hn1 hfit
      have b308 : B w566 g3 25 ([.int .i64 s, .int .i64 b]) := Hold.blk H66 0 rfl
      refine sq (rg (r (fa Tryz.underlying25 rfl ti2 rfl y3) (r (ldb Tryz.underlying2 rfl rfl b308 rfl) (r (fa Tryz.underlying25 rfl ti2 rfl y3) (r (ldb Tryz.underlying2 rfl rfl b308 rfl) (r (ml (a := s) (b := b) (s * b) rfl rfl (by omega)) (r (fa Tryz.underlying25 rfl ti2 rfl y3) (r (ldb Tryz.underlying2 rfl rfl b308 rfl) (r (ml (a := 2) (b := b) (2 * b) rfl rfl (by omega)) (r (sb (a := s * b) (b := 2 * b) (s * b - 2 * b) rfl rfl (by omega)) (r (sa rfl) (re (sq ?_)))))))))))))
      refine gen (fun ρ => ρ 2 = .bool false ∧ ρ 3 = .pointer (some ⟨g3, 0, none⟩) ∧ ρ 4 = .int .i64 (n : Int) ∧ ρ 5 = .int .i64 (s * b - 2 * b) ∧ True) ⟨y2, y3, y4, rfl, trivial⟩ ?_
      rintro ρ ⟨z2, z3, z4, z5, -⟩
      refine rg (r (mv z5) (r (mv z4) (r (dv (a := s * b - 2 * b) (b := (n : Int)) ((fit : Int)) rfl rfl ⟨by omega, hft, by omega, by omega⟩) (r (sa rfl) (re (sq (rg (r (sa rfl) (re (sq (bl ?_)))))))))))
      refine lp (α := Nat) (fun j ρ w' => ρ 3 = .pointer (some ⟨g3, 0, none⟩) ∧ ρ 4 = .int .i64 (n : Int) ∧ ρ 6 = .int .i64 (fit : Int) ∧ ρ 7 = .string (dN j) ∧ Hold w [] w' [rB g3 25 ([.int .i64 s, .int .i64 b])] ∧ 16 * j ≤ 64 * (n - 1)) (fun j => 4 * n - j) 0 ?_ ?_
      · exact ⟨z3, z4, rfl, rfl, H66, by omega⟩
      clear H66
      rintro j ρ w567 ⟨y3, y4, y6, y7, H67, hj⟩
      have hds := dN_size j
      have h16 : (⟨#[48, 49, 50, 51, 52, 53, 54, 55, 56, 57, 97, 98, 99, 100, 101, 102]⟩ : ByteArray).size = 16 := rfl
      refine sq (sq (rg (r (mv y7) (r (lns Tryz.underlying9 rfl) (r (mv y4) (r (sb (a := (n : Int)) (b := 1) ((n : Int) - 1) rfl rfl (by omega)) (r (ml (a := (n : Int) - 1) (b := 64) (((n : Int) - 1) * 64) rfl rfl (by omega)) (r (bi rfl rfl rfl) (re ?_)))))))))
      refine cp rfl (fun hlt => ?_) (fun hlt => ?_)
      · refine sk (bl (rg (r (mv y7) (r (sct rfl rfl (by rw [hds, h16]; omega)) (r (sa rfl) (re (be ?_)))))))
        exact ag (j + 1) ⟨y3, y4, y6, rfl, H67, by omega⟩ (by first | omega | (dsimp only; omega))
      · obtain ⟨dt, hdt⟩ : ∃ d, d = dN j := ⟨_, rfl⟩
        rw [← hdt] at hds hlt
        have hdl : dt.size = 64 * (n - 1) := by omega
        have C : Cx s b n fit dt := ⟨hg, by unfold mN; omega, by omega, hf1, hf2, hf3⟩
        have h102 : (⟨#[102]⟩ : ByteArray).size = 1 := rfl
        have hdz : ∀ i, (mkS (decL i)).size ≤ 2 := fun i => by rw [mkS_size]; unfold decL; split <;> simp
        refine ex rfl (sq (rg (ef (xbs0 (dk := kCal) Tryz.underlying26 ti29) ?_)))
        rintro v309 w309 N309
        have H68 : Hold w [] w309 [rB g3 25 ([.int .i64 s, .int .i64 b]), rR kCal 29 v309 ([])] := Hold.newr H67 N309
        clear H67
        refine r (sa rfl) (re (sq (sq (rg (r (sa rfl) (re (bl ?_)))))))
        refine lp (α := Nat × Value) (fun (i, cv) ρ w' => ρ 3 = .pointer (some ⟨g3, 0, none⟩) ∧ ρ 4 = .int .i64 (n : Int) ∧ ρ 6 = .int .i64 (fit : Int) ∧ ρ 7 = .string dt ∧ ρ 8 = cv ∧ ρ 9 = .int .i64 (i : Int) ∧ Hold w [] w' [rB g3 25 ([.int .i64 s, .int .i64 b]), rR kCal 29 cv ((List.range (i)).map (Cf fit dt))] ∧ i ≤ fit + 1) (fun (i, cv) => fit + 1 - i) (0, v309) ?_ ?_
        · exact ⟨y3, y4, y6, (y7.trans (congrArg Value.string hdt.symm)), rfl, rfl, H68, by omega⟩
        clear H68
        rintro ⟨i, cv⟩ ρ w569 ⟨y3, y4, y6, y7, y8, y9, H69, hi⟩
        refine sq (sq (rg (r (mv y9) (r (mv y6) (r (bi rfl rfl rfl) (re ?_))))))
        refine cp rfl (fun hlt => ?_) (fun hlt => ?_)
        · have hz := hdz i
          refine sk (sq (bl (rg (r (mv y8) (r (mv y9) (cl go5 (lwDec_2 (i := i) (by omega)) (ac rfl an) ?_))))))
          rintro r wd ⟨rfl, cd⟩
          have H70 : Hold w [] wd [rB g3 25 ([.int .i64 s, .int .i64 b]), rR kCal 29 cv ((List.range (i)).map (Cf fit dt))] := Hold.t H69 cd
          clear H69
          clear cd
          refine r (sct rfl rfl (by rw [h102]; omega)) (r (mv y7) (r (bd (r := [.int .i64 1, .string ((⟨#[102]⟩ : ByteArray) ++ (mkS (decL i))), .string dt, .int .i64 0]) ti29 pl29 (pc rfl (cel1 rfl) (pc rfl (cel1 rfl) (pc rfl (cel1 rfl) pn))) rfl) (ef (xbs1 (cs := [.int .i64 1, .string ((⟨#[102]⟩ : ByteArray) ++ (mkS (decL i))), .string dt, .int .i64 0]) Tryz.underlying26 ti29 rfl rfl rfl rfl rfl) ?_)))
          rintro _ w311 ⟨g67, e311, rfl, -, b311, c311⟩
          have H71 : Hold w [] w311 [rB g3 25 ([.int .i64 s, .int .i64 b]), rR kCal 29 cv ((List.range (i)).map (Cf fit dt)), rB g67 29 ([.int .i64 1, .string ((⟨#[102]⟩ : ByteArray) ++ (mkS (decL i))), .string dt, .int .i64 0])] := Hold.newB H70 e311 b311 c311
          clear H70
          clear e311 b311 c311
          have b313 : B w311 g67 29 ([.int .i64 1, .string ((⟨#[102]⟩ : ByteArray) ++ (mkS (decL i))), .string dt, .int .i64 0]) := Hold.blk H71 2 rfl
          obtain ⟨F314, P314, n314, s314, K314⟩ := Hold.pick H71 1 rfl
          replace P314 : Kd.W kCal 29 w311 F314 cv ((List.range (i)).map (Cf fit dt)) := P314
          refine ef (xapb (ys := [(1, (⟨#[102]⟩ : ByteArray) ++ (mkS (decL i)), dt)]) Tryz.underlying26 ti29 rfl rfl rfl P314 b313 (els_one (R := Kd.O kCal _) (show Kd.O kCal _ [] (1, (⟨#[102]⟩ : ByteArray) ++ (mkS (decL i)), dt) _ from ⟨rfl, rfl⟩)) (nodup_nil n314) (by simp; omega)) ?_
          rintro v68_312 w312 ⟨F312, A312⟩
          have H72 : Hold w [] w312 [rB g3 25 ([.int .i64 s, .int .i64 b]), rR kCal 29 v68_312 (((List.range (i)).map (Cf fit dt)) ++ [(1, (⟨#[102]⟩ : ByteArray) ++ (mkS (decL i)), dt)]), rB g67 29 ([.int .i64 1, .string ((⟨#[102]⟩ : ByteArray) ++ (mkS (decL i))), .string dt, .int .i64 0])] := Hold.apd K314 P314 A312 rfl
          clear H71
          clear A312 K314 P314 n314 s314
          refine r (sa rfl) (re (be ?_))
          refine gen (fun ρ => ρ 3 = .pointer (some ⟨g3, 0, none⟩) ∧ ρ 4 = .int .i64 (n : Int) ∧ ρ 6 = .int .i64 (fit : Int) ∧ ρ 7 = .string dt ∧ ρ 8 = v68_312 ∧ ρ 9 = .int .i64 (i : Int) ∧ True) ⟨y3, y4, y6, y7, rfl, y9, trivial⟩ ?_
          rintro ρ ⟨z3, z4, z6, z7, z8, z9, -⟩
          refine rg (r (mv z9) (r (ad (a := (i : Int)) (b := 1) ((i : Int) + 1) rfl rfl (by omega)) (r (sa rfl) (re ?_))))
          have H73 : Hold w [] w312 [rB g3 25 ([.int .i64 s, .int .i64 b]), rR kCal 29 v68_312 ((List.range (i + 1)).map (Cf fit dt)), rB g67 29 ([.int .i64 1, .string ((⟨#[102]⟩ : ByteArray) ++ (mkS (decL i))), .string dt, .int .i64 0])] := (by rw [Cs_snoc (show Cf fit dt (i) = (1, (⟨#[102]⟩ : ByteArray) ++ (mkS (decL i)), dt) from if_pos (by omega))] at H72; exact H72)
          clear H72
          have H74 : Hold w [] w312 [rB g3 25 ([.int .i64 s, .int .i64 b]), rR kCal 29 v68_312 ((List.range (i + 1)).map (Cf fit dt))] := (show Hold w [] w312 ([rB g3 25 ([.int .i64 s, .int .i64 b]), rR kCal 29 v68_312 ((List.range (i + 1)).map (Cf fit dt))] ++ [rB g67 29 ([.int .i64 1, .string ((⟨#[102]⟩ : ByteArray) ++ (mkS (decL i))), .string dt, .int .i64 0])]) from Hold.re H73 [0, 1, 2] (by kernel_rfl) (by rfl)).drop
          clear H73
          exact ag (i + 1, v68_312) ⟨z3, z4, z6, z7, z8, rfl, H74, by omega⟩ (by first | omega | (dsimp only; omega))
        · have ei : i = fit + 1 := by omega
          have H70 : Hold w [] w569 [rB g3 25 ([.int .i64 s, .int .i64 b]), rR kCal 29 cv ((List.range (fit + 1)).map (Cf fit dt))] := (by rw [ei] at H69; exact H69)
          clear H69
          refine ex rfl (sq (rg (r (mv y8) (r (bd (r := [.int .i64 6, .string ⟨#[]⟩, .string ⟨#[]⟩, .int .i64 0]) ti29 pl29 (pc rfl (cel1 rfl) pn) rfl) (ef (xbs1 (cs := [.int .i64 6, .string ⟨#[]⟩, .string ⟨#[]⟩, .int .i64 0]) Tryz.underlying26 ti29 rfl rfl rfl rfl rfl) ?_)))))
          rintro _ w310 ⟨g71, e310, rfl, -, b310, c310⟩
          have H71 : Hold w [] w310 [rB g3 25 ([.int .i64 s, .int .i64 b]), rR kCal 29 cv ((List.range (fit + 1)).map (Cf fit dt)), rB g71 29 ([.int .i64 6, .string ⟨#[]⟩, .string ⟨#[]⟩, .int .i64 0])] := Hold.newB H70 e310 b310 c310
          clear H70
          clear e310 b310 c310
          have b312 : B w310 g71 29 ([.int .i64 6, .string ⟨#[]⟩, .string ⟨#[]⟩, .int .i64 0]) := Hold.blk H71 2 rfl
          obtain ⟨F313, P313, n313, s313, K313⟩ := Hold.pick H71 1 rfl
          replace P313 : Kd.W kCal 29 w310 F313 cv ((List.range (fit + 1)).map (Cf fit dt)) := P313
          refine ef (xapb (ys := [(6, (⟨#[]⟩ : ByteArray), (⟨#[]⟩ : ByteArray))]) Tryz.underlying26 ti29 rfl rfl rfl P313 b312 (els_one (R := Kd.O kCal _) (show Kd.O kCal _ [] (6, (⟨#[]⟩ : ByteArray), (⟨#[]⟩ : ByteArray)) _ from ⟨rfl, rfl⟩)) (nodup_nil n313) (by simp; omega)) ?_
          rintro v72_311 w311 ⟨F311, A311⟩
          have H72 : Hold w [] w311 [rB g3 25 ([.int .i64 s, .int .i64 b]), rR kCal 29 v72_311 (((List.range (fit + 1)).map (Cf fit dt)) ++ [(6, (⟨#[]⟩ : ByteArray), (⟨#[]⟩ : ByteArray))]), rB g71 29 ([.int .i64 6, .string ⟨#[]⟩, .string ⟨#[]⟩, .int .i64 0])] := Hold.apd K313 P313 A311 rfl
          clear H71
          clear A311 K313 P313 n313 s313
          refine r (sa rfl) (re (sq ?_))
          have H73 : Hold w [] w311 [rB g3 25 ([.int .i64 s, .int .i64 b]), rR kCal 29 v72_311 ((List.range (fit + 1 + 1)).map (Cf fit dt)), rB g71 29 ([.int .i64 6, .string ⟨#[]⟩, .string ⟨#[]⟩, .int .i64 0])] := (by rw [Cs_snoc (show Cf fit dt (fit + 1) = (6, (⟨#[]⟩ : ByteArray), (⟨#[]⟩ : ByteArray)) from by unfold Cf; rw [if_neg (by omega), if_pos rfl])] at H72; exact H72)
          clear H72
          refine sq (rg (r (sa rfl) (re (bl ?_))))
          have H74 : Hold w [] w311 [rB g3 25 ([.int .i64 s, .int .i64 b]), rR kCal 29 v72_311 ((List.range (fit + 1 + 1)).map (Cf fit dt))] := (show Hold w [] w311 ([rB g3 25 ([.int .i64 s, .int .i64 b]), rR kCal 29 v72_311 ((List.range (fit + 1 + 1)).map (Cf fit dt))] ++ [rB g71 29 ([.int .i64 6, .string ⟨#[]⟩, .string ⟨#[]⟩, .int .i64 0])]) from Hold.re H73 [0, 1, 2] (by kernel_rfl) (by rfl)).drop
          clear H73
          refine lp (α := Nat × Value) (fun (i2, cv2) ρ w' => ρ 3 = .pointer (some ⟨g3, 0, none⟩) ∧ ρ 4 = .int .i64 (n : Int) ∧ ρ 6 = .int .i64 (fit : Int) ∧ ρ 7 = .string dt ∧ ρ 8 = cv2 ∧ ρ 10 = .int .i64 (i2 : Int) ∧ Hold w [] w' [rB g3 25 ([.int .i64 s, .int .i64 b]), rR kCal 29 cv2 ((List.range (fit + 2 + i2)).map (Cf fit dt))] ∧ i2 ≤ fit) (fun (i2, cv2) => fit - i2) (0, v72_311) ?_ ?_
          · exact ⟨y3, y4, y6, y7, rfl, rfl, H74, by omega⟩
          clear H74
          rintro ⟨i2, cv2⟩ ρ w575 ⟨y3, y4, y6, y7, y8, y10, H75, hi2⟩
          refine sq (sq (rg (r (mv y10) (r (mv y6) (r (bi rfl rfl rfl) (re ?_))))))
          refine cp rfl (fun hlt2 => ?_) (fun hlt2 => ?_)
          · have hz := hdz i2
            refine sk (sq (bl (rg (r (mv y8) (r (mv y10) (cl go5 (lwDec_2 (i := i2) (by omega)) (ac rfl an) ?_))))))
            rintro r wd ⟨rfl, cd⟩
            have H76 : Hold w [] wd [rB g3 25 ([.int .i64 s, .int .i64 b]), rR kCal 29 cv2 ((List.range (fit + 2 + i2)).map (Cf fit dt))] := Hold.t H75 cd
            clear H75
            clear cd
            refine r (sct rfl rfl (by rw [h102]; omega)) (r (bd (r := [.int .i64 4, .string ((⟨#[102]⟩ : ByteArray) ++ (mkS (decL i2))), .string ⟨#[]⟩, .int .i64 0]) ti29 pl29 (pc rfl (cel1 rfl) (pc rfl (cel1 rfl) pn)) rfl) (ef (xbs1 (cs := [.int .i64 4, .string ((⟨#[102]⟩ : ByteArray) ++ (mkS (decL i2))), .string ⟨#[]⟩, .int .i64 0]) Tryz.underlying26 ti29 rfl rfl rfl rfl rfl) ?_))
            rintro _ w315 ⟨g83, e315, rfl, -, b315, c315⟩
            have H77 : Hold w [] w315 [rB g3 25 ([.int .i64 s, .int .i64 b]), rR kCal 29 cv2 ((List.range (fit + 2 + i2)).map (Cf fit dt)), rB g83 29 ([.int .i64 4, .string ((⟨#[102]⟩ : ByteArray) ++ (mkS (decL i2))), .string ⟨#[]⟩, .int .i64 0])] := Hold.newB H76 e315 b315 c315
            clear H76
            clear e315 b315 c315
            have b317 : B w315 g83 29 ([.int .i64 4, .string ((⟨#[102]⟩ : ByteArray) ++ (mkS (decL i2))), .string ⟨#[]⟩, .int .i64 0]) := Hold.blk H77 2 rfl
            obtain ⟨F318, P318, n318, s318, K318⟩ := Hold.pick H77 1 rfl
            replace P318 : Kd.W kCal 29 w315 F318 cv2 ((List.range (fit + 2 + i2)).map (Cf fit dt)) := P318
            refine ef (xapb (ys := [(4, (⟨#[102]⟩ : ByteArray) ++ (mkS (decL i2)), (⟨#[]⟩ : ByteArray))]) Tryz.underlying26 ti29 rfl rfl rfl P318 b317 (els_one (R := Kd.O kCal _) (show Kd.O kCal _ [] (4, (⟨#[102]⟩ : ByteArray) ++ (mkS (decL i2)), (⟨#[]⟩ : ByteArray)) _ from ⟨rfl, rfl⟩)) (nodup_nil n318) (by simp; omega)) ?_
            rintro v84_316 w316 ⟨F316, A316⟩
            have H78 : Hold w [] w316 [rB g3 25 ([.int .i64 s, .int .i64 b]), rR kCal 29 v84_316 (((List.range (fit + 2 + i2)).map (Cf fit dt)) ++ [(4, (⟨#[102]⟩ : ByteArray) ++ (mkS (decL i2)), (⟨#[]⟩ : ByteArray))]), rB g83 29 ([.int .i64 4, .string ((⟨#[102]⟩ : ByteArray) ++ (mkS (decL i2))), .string ⟨#[]⟩, .int .i64 0])] := Hold.apd K318 P318 A316 rfl
            clear H77
            clear A316 K318 P318 n318 s318
            refine r (sa rfl) (re (be ?_))
            refine gen (fun ρ => ρ 3 = .pointer (some ⟨g3, 0, none⟩) ∧ ρ 4 = .int .i64 (n : Int) ∧ ρ 6 = .int .i64 (fit : Int) ∧ ρ 7 = .string dt ∧ ρ 8 = v84_316 ∧ ρ 10 = .int .i64 (i2 : Int) ∧ True) ⟨y3, y4, y6, y7, rfl, y10, trivial⟩ ?_
            rintro ρ ⟨z3, z4, z6, z7, z8, z10, -⟩
            refine rg (r (mv z10) (r (ad (a := (i2 : Int)) (b := 1) ((i2 : Int) + 1) rfl rfl (by omega)) (r (sa rfl) (re ?_))))
            have H79 : Hold w [] w316 [rB g3 25 ([.int .i64 s, .int .i64 b]), rR kCal 29 v84_316 ((List.range (fit + 2 + i2 + 1)).map (Cf fit dt)), rB g83 29 ([.int .i64 4, .string ((⟨#[102]⟩ : ByteArray) ++ (mkS (decL i2))), .string ⟨#[]⟩, .int .i64 0])] := (by rw [Cs_snoc (show Cf fit dt (fit + 2 + i2) = (4, (⟨#[102]⟩ : ByteArray) ++ (mkS (decL i2)), (⟨#[]⟩ : ByteArray)) from by unfold Cf; rw [if_neg (by omega), if_neg (by omega), if_pos (by omega), show fit + 2 + i2 - fit - 2 = i2 by omega]; rfl)] at H78; exact H78)
            clear H78
            have H80 : Hold w [] w316 [rB g3 25 ([.int .i64 s, .int .i64 b]), rR kCal 29 v84_316 ((List.range (fit + 2 + i2 + 1)).map (Cf fit dt))] := (show Hold w [] w316 ([rB g3 25 ([.int .i64 s, .int .i64 b]), rR kCal 29 v84_316 ((List.range (fit + 2 + i2 + 1)).map (Cf fit dt))] ++ [rB g83 29 ([.int .i64 4, .string ((⟨#[102]⟩ : ByteArray) ++ (mkS (decL i2))), .string ⟨#[]⟩, .int .i64 0])]) from Hold.re H79 [0, 1, 2] (by kernel_rfl) (by rfl)).drop
            clear H79
            exact ag (i2 + 1, v84_316) ⟨z3, z4, z6, z7, z8, rfl, H80, by omega⟩ (by first | omega | (dsimp only; omega))
          · have ei2 : i2 = fit := by omega
            have H76 : Hold w [] w575 [rB g3 25 ([.int .i64 s, .int .i64 b]), rR kCal 29 cv2 ((List.range (fit + 2 + fit)).map (Cf fit dt))] := (by rw [ei2] at H75; exact H75)
            clear H75
            refine ex rfl (sq (rg (r (mv y8) (r (mv y7) (r (bd (r := [.int .i64 1, .string (⟨#[103]⟩ : ByteArray), .string dt, .int .i64 0]) ti29 pl29 (pc rfl (cel1 rfl) (pc rfl (cel1 rfl) (pc rfl (cel1 rfl) pn))) rfl) (ef (xbs1 (cs := [.int .i64 1, .string (⟨#[103]⟩ : ByteArray), .string dt, .int .i64 0]) Tryz.underlying26 ti29 rfl rfl rfl rfl rfl) ?_))))))
            rintro _ w314 ⟨g88, e314, rfl, -, b314, c314⟩
            have H77 : Hold w [] w314 [rB g3 25 ([.int .i64 s, .int .i64 b]), rR kCal 29 cv2 ((List.range (fit + 2 + fit)).map (Cf fit dt)), rB g88 29 ([.int .i64 1, .string (⟨#[103]⟩ : ByteArray), .string dt, .int .i64 0])] := Hold.newB H76 e314 b314 c314
            clear H76
            clear e314 b314 c314
            have b316 : B w314 g88 29 ([.int .i64 1, .string (⟨#[103]⟩ : ByteArray), .string dt, .int .i64 0]) := Hold.blk H77 2 rfl
            obtain ⟨F317, P317, n317, s317, K317⟩ := Hold.pick H77 1 rfl
            replace P317 : Kd.W kCal 29 w314 F317 cv2 ((List.range (fit + 2 + fit)).map (Cf fit dt)) := P317
            refine ef (xapb (ys := [(1, (⟨#[103]⟩ : ByteArray), dt)]) Tryz.underlying26 ti29 rfl rfl rfl P317 b316 (els_one (R := Kd.O kCal _) (show Kd.O kCal _ [] (1, (⟨#[103]⟩ : ByteArray), dt) _ from ⟨rfl, rfl⟩)) (nodup_nil n317) (by simp; omega)) ?_
            rintro v89_315 w315 ⟨F315, A315⟩
            have H78 : Hold w [] w315 [rB g3 25 ([.int .i64 s, .int .i64 b]), rR kCal 29 v89_315 (((List.range (fit + 2 + fit)).map (Cf fit dt)) ++ [(1, (⟨#[103]⟩ : ByteArray), dt)]), rB g88 29 ([.int .i64 1, .string (⟨#[103]⟩ : ByteArray), .string dt, .int .i64 0])] := Hold.apd K317 P317 A315 rfl
            clear H77
            clear A315 K317 P317 n317 s317
            refine r (sa rfl) (re ?_)
            have H79 : Hold w [] w315 [rB g3 25 ([.int .i64 s, .int .i64 b]), rR kCal 29 v89_315 ((List.range (fit + 2 + fit + 1)).map (Cf fit dt)), rB g88 29 ([.int .i64 1, .string (⟨#[103]⟩ : ByteArray), .string dt, .int .i64 0])] := (by rw [Cs_snoc (show Cf fit dt (fit + 2 + fit) = (1, (⟨#[103]⟩ : ByteArray), dt) from by unfold Cf; rw [if_neg (by omega), if_neg (by omega), if_neg (by omega), if_pos (by omega)])] at H78; exact H78)
            clear H78
            refine sq (rg (r (mv rfl) (r (bd (r := [.int .i64 6, .string ⟨#[]⟩, .string ⟨#[]⟩, .int .i64 0]) ti29 pl29 (pc rfl (cel1 rfl) pn) rfl) (ef (xbs1 (cs := [.int .i64 6, .string ⟨#[]⟩, .string ⟨#[]⟩, .int .i64 0]) Tryz.underlying26 ti29 rfl rfl rfl rfl rfl) ?_))))
            rintro _ w318 ⟨g92, e318, rfl, -, b318, c318⟩
            have H80 : Hold w [] w318 [rB g3 25 ([.int .i64 s, .int .i64 b]), rR kCal 29 v89_315 ((List.range (fit + 2 + fit + 1)).map (Cf fit dt)), rB g88 29 ([.int .i64 1, .string (⟨#[103]⟩ : ByteArray), .string dt, .int .i64 0]), rB g92 29 ([.int .i64 6, .string ⟨#[]⟩, .string ⟨#[]⟩, .int .i64 0])] := Hold.newB H79 e318 b318 c318
            clear H79
            clear e318 b318 c318
            have b320 : B w318 g92 29 ([.int .i64 6, .string ⟨#[]⟩, .string ⟨#[]⟩, .int .i64 0]) := Hold.blk H80 3 rfl
            obtain ⟨F321, P321, n321, s321, K321⟩ := Hold.pick H80 1 rfl
            replace P321 : Kd.W kCal 29 w318 F321 v89_315 ((List.range (fit + 2 + fit + 1)).map (Cf fit dt)) := P321
            refine ef (xapb (ys := [(6, (⟨#[]⟩ : ByteArray), (⟨#[]⟩ : ByteArray))]) Tryz.underlying26 ti29 rfl rfl rfl P321 b320 (els_one (R := Kd.O kCal _) (show Kd.O kCal _ [] (6, (⟨#[]⟩ : ByteArray), (⟨#[]⟩ : ByteArray)) _ from ⟨rfl, rfl⟩)) (nodup_nil n321) (by simp; omega)) ?_
            rintro v93_319 w319 ⟨F319, A319⟩
            have H81 : Hold w [] w319 [rB g3 25 ([.int .i64 s, .int .i64 b]), rR kCal 29 v93_319 (((List.range (fit + 2 + fit + 1)).map (Cf fit dt)) ++ [(6, (⟨#[]⟩ : ByteArray), (⟨#[]⟩ : ByteArray))]), rB g88 29 ([.int .i64 1, .string (⟨#[103]⟩ : ByteArray), .string dt, .int .i64 0]), rB g92 29 ([.int .i64 6, .string ⟨#[]⟩, .string ⟨#[]⟩, .int .i64 0])] := Hold.apd K321 P321 A319 rfl
            clear H80
            clear A319 K321 P321 n321 s321
            refine r (sa rfl) (re ?_)
            have H82 : Hold w [] w319 [rB g3 25 ([.int .i64 s, .int .i64 b]), rR kCal 29 v93_319 ((List.range (fit + 2 + fit + 1 + 1)).map (Cf fit dt)), rB g88 29 ([.int .i64 1, .string (⟨#[103]⟩ : ByteArray), .string dt, .int .i64 0]), rB g92 29 ([.int .i64 6, .string ⟨#[]⟩, .string ⟨#[]⟩, .int .i64 0])] := (by rw [Cs_snoc (show Cf fit dt (fit + 2 + fit + 1) = (6, (⟨#[]⟩ : ByteArray), (⟨#[]⟩ : ByteArray)) from by unfold Cf; rw [if_neg (by omega), if_neg (by omega), if_neg (by omega), if_neg (by omega), if_pos (by omega)])] at H81; exact H81)
            clear H81
            refine sq ?_
            refine gen (fun ρ => ρ 3 = .pointer (some ⟨g3, 0, none⟩) ∧ ρ 6 = .int .i64 (fit : Int) ∧ ρ 7 = .string dt ∧ ρ 8 = v93_319 ∧ True) ⟨y3, y6, y7, rfl, trivial⟩ ?_
            rintro ρ ⟨z3, z6, z7, z8, -⟩
            refine rg (r (mv z8) (r (mv z7) (r (bd (r := [.int .i64 1, .string (⟨#[103]⟩ : ByteArray), .string dt, .int .i64 0]) ti29 pl29 (pc rfl (cel1 rfl) (pc rfl (cel1 rfl) (pc rfl (cel1 rfl) pn))) rfl) (ef (xbs1 (cs := [.int .i64 1, .string (⟨#[103]⟩ : ByteArray), .string dt, .int .i64 0]) Tryz.underlying26 ti29 rfl rfl rfl rfl rfl) ?_))))
            rintro _ w322 ⟨g97, e322, rfl, -, b322, c322⟩
            have H83 : Hold w [] w322 [rB g3 25 ([.int .i64 s, .int .i64 b]), rR kCal 29 v93_319 ((List.range (fit + 2 + fit + 1 + 1)).map (Cf fit dt)), rB g88 29 ([.int .i64 1, .string (⟨#[103]⟩ : ByteArray), .string dt, .int .i64 0]), rB g92 29 ([.int .i64 6, .string ⟨#[]⟩, .string ⟨#[]⟩, .int .i64 0]), rB g97 29 ([.int .i64 1, .string (⟨#[103]⟩ : ByteArray), .string dt, .int .i64 0])] := Hold.newB H82 e322 b322 c322
            clear H82
            clear e322 b322 c322
            have b324 : B w322 g97 29 ([.int .i64 1, .string (⟨#[103]⟩ : ByteArray), .string dt, .int .i64 0]) := Hold.blk H83 4 rfl
            obtain ⟨F325, P325, n325, s325, K325⟩ := Hold.pick H83 1 rfl
            replace P325 : Kd.W kCal 29 w322 F325 v93_319 ((List.range (fit + 2 + fit + 1 + 1)).map (Cf fit dt)) := P325
            refine ef (xapb (ys := [(1, (⟨#[103]⟩ : ByteArray), dt)]) Tryz.underlying26 ti29 rfl rfl rfl P325 b324 (els_one (R := Kd.O kCal _) (show Kd.O kCal _ [] (1, (⟨#[103]⟩ : ByteArray), dt) _ from ⟨rfl, rfl⟩)) (nodup_nil n325) (by simp; omega)) ?_
            rintro v98_323 w323 ⟨F323, A323⟩
            have H84 : Hold w [] w323 [rB g3 25 ([.int .i64 s, .int .i64 b]), rR kCal 29 v98_323 (((List.range (fit + 2 + fit + 1 + 1)).map (Cf fit dt)) ++ [(1, (⟨#[103]⟩ : ByteArray), dt)]), rB g88 29 ([.int .i64 1, .string (⟨#[103]⟩ : ByteArray), .string dt, .int .i64 0]), rB g92 29 ([.int .i64 6, .string ⟨#[]⟩, .string ⟨#[]⟩, .int .i64 0]), rB g97 29 ([.int .i64 1, .string (⟨#[103]⟩ : ByteArray), .string dt, .int .i64 0])] := Hold.apd K325 P325 A323 rfl
            clear H83
            clear A323 K325 P325 n325 s325
            refine r (sa rfl) (re ?_)
            have H85 : Hold w [] w323 [rB g3 25 ([.int .i64 s, .int .i64 b]), rR kCal 29 v98_323 ((List.range (fit + 2 + fit + 1 + 1 + 1)).map (Cf fit dt)), rB g88 29 ([.int .i64 1, .string (⟨#[103]⟩ : ByteArray), .string dt, .int .i64 0]), rB g92 29 ([.int .i64 6, .string ⟨#[]⟩, .string ⟨#[]⟩, .int .i64 0]), rB g97 29 ([.int .i64 1, .string (⟨#[103]⟩ : ByteArray), .string dt, .int .i64 0])] := (by rw [Cs_snoc (show Cf fit dt (fit + 2 + fit + 1 + 1) = (1, (⟨#[103]⟩ : ByteArray), dt) from by unfold Cf; rw [if_neg (by omega), if_neg (by omega), if_neg (by omega), if_neg (by omega), if_neg (by omega), if_pos (by omega)])] at H84; exact H84)
            clear H84
            refine sq (rg (r (mv rfl) (r (bd (r := [.int .i64 2, .string (⟨#[103]⟩ : ByteArray), .string ⟨#[]⟩, .int .i64 0]) ti29 pl29 (pc rfl (cel1 rfl) (pc rfl (cel1 rfl) pn)) rfl) (ef (xbs1 (cs := [.int .i64 2, .string (⟨#[103]⟩ : ByteArray), .string ⟨#[]⟩, .int .i64 0]) Tryz.underlying26 ti29 rfl rfl rfl rfl rfl) ?_))))
            rintro _ w326 ⟨g101, e326, rfl, -, b326, c326⟩
            have H86 : Hold w [] w326 [rB g3 25 ([.int .i64 s, .int .i64 b]), rR kCal 29 v98_323 ((List.range (fit + 2 + fit + 1 + 1 + 1)).map (Cf fit dt)), rB g88 29 ([.int .i64 1, .string (⟨#[103]⟩ : ByteArray), .string dt, .int .i64 0]), rB g92 29 ([.int .i64 6, .string ⟨#[]⟩, .string ⟨#[]⟩, .int .i64 0]), rB g97 29 ([.int .i64 1, .string (⟨#[103]⟩ : ByteArray), .string dt, .int .i64 0]), rB g101 29 ([.int .i64 2, .string (⟨#[103]⟩ : ByteArray), .string ⟨#[]⟩, .int .i64 0])] := Hold.newB H85 e326 b326 c326
            clear H85
            clear e326 b326 c326
            have b328 : B w326 g101 29 ([.int .i64 2, .string (⟨#[103]⟩ : ByteArray), .string ⟨#[]⟩, .int .i64 0]) := Hold.blk H86 5 rfl
            obtain ⟨F329, P329, n329, s329, K329⟩ := Hold.pick H86 1 rfl
            replace P329 : Kd.W kCal 29 w326 F329 v98_323 ((List.range (fit + 2 + fit + 1 + 1 + 1)).map (Cf fit dt)) := P329
            refine ef (xapb (ys := [(2, (⟨#[103]⟩ : ByteArray), (⟨#[]⟩ : ByteArray))]) Tryz.underlying26 ti29 rfl rfl rfl P329 b328 (els_one (R := Kd.O kCal _) (show Kd.O kCal _ [] (2, (⟨#[103]⟩ : ByteArray), (⟨#[]⟩ : ByteArray)) _ from ⟨rfl, rfl⟩)) (nodup_nil n329) (by simp; omega)) ?_
            rintro v102_327 w327 ⟨F327, A327⟩
            have H87 : Hold w [] w327 [rB g3 25 ([.int .i64 s, .int .i64 b]), rR kCal 29 v102_327 (((List.range (fit + 2 + fit + 1 + 1 + 1)).map (Cf fit dt)) ++ [(2, (⟨#[103]⟩ : ByteArray), (⟨#[]⟩ : ByteArray))]), rB g88 29 ([.int .i64 1, .string (⟨#[103]⟩ : ByteArray), .string dt, .int .i64 0]), rB g92 29 ([.int .i64 6, .string ⟨#[]⟩, .string ⟨#[]⟩, .int .i64 0]), rB g97 29 ([.int .i64 1, .string (⟨#[103]⟩ : ByteArray), .string dt, .int .i64 0]), rB g101 29 ([.int .i64 2, .string (⟨#[103]⟩ : ByteArray), .string ⟨#[]⟩, .int .i64 0])] := Hold.apd K329 P329 A327 rfl
            clear H86
            clear A327 K329 P329 n329 s329
            refine r (sa rfl) (re ?_)
            have H88 : Hold w [] w327 [rB g3 25 ([.int .i64 s, .int .i64 b]), rR kCal 29 v102_327 ((List.range (fit + 2 + fit + 1 + 1 + 1 + 1)).map (Cf fit dt)), rB g88 29 ([.int .i64 1, .string (⟨#[103]⟩ : ByteArray), .string dt, .int .i64 0]), rB g92 29 ([.int .i64 6, .string ⟨#[]⟩, .string ⟨#[]⟩, .int .i64 0]), rB g97 29 ([.int .i64 1, .string (⟨#[103]⟩ : ByteArray), .string dt, .int .i64 0]), rB g101 29 ([.int .i64 2, .string (⟨#[103]⟩ : ByteArray), .string ⟨#[]⟩, .int .i64 0])] := (by rw [Cs_snoc (show Cf fit dt (fit + 2 + fit + 1 + 1 + 1) = (2, (⟨#[103]⟩ : ByteArray), (⟨#[]⟩ : ByteArray)) from by unfold Cf; rw [if_neg (by omega), if_neg (by omega), if_neg (by omega), if_neg (by omega), if_neg (by omega), if_neg (by omega)])] at H87; exact H87)
            clear H87
            have H89 : Hold w [] w327 [rB g3 25 ([.int .i64 s, .int .i64 b]), rR kCal 29 v102_327 ((List.range (2 * fit + 6)).map (Cf fit dt)), rB g88 29 ([.int .i64 1, .string (⟨#[103]⟩ : ByteArray), .string dt, .int .i64 0]), rB g92 29 ([.int .i64 6, .string ⟨#[]⟩, .string ⟨#[]⟩, .int .i64 0]), rB g97 29 ([.int .i64 1, .string (⟨#[103]⟩ : ByteArray), .string dt, .int .i64 0]), rB g101 29 ([.int .i64 2, .string (⟨#[103]⟩ : ByteArray), .string ⟨#[]⟩, .int .i64 0])] := (by rw [show fit + 2 + fit + 1 + 1 + 1 + 1 = 2 * fit + 6 by omega] at H88; exact H88)
            clear H88
            have hal : ((List.range (2 * fit + 6)).map (Af fit dt)).length = 2 * fit + 6 := by simp
            have hcl : ((List.range (2 * fit + 6)).map (Cf fit dt)).length = 2 * fit + 6 := by simp
            refine sq ?_
            refine gen (fun ρ => ρ 3 = .pointer (some ⟨g3, 0, none⟩) ∧ ρ 6 = .int .i64 (fit : Int) ∧ ρ 7 = .string dt ∧ ρ 8 = v102_327 ∧ True) ⟨z3, z6, z7, rfl, trivial⟩ ?_
            rintro ρ ⟨z3, z6, z7, z8, -⟩
            refine rde_cut (fun ρ w' => ∃ g11 : Nat, ∃ av : Value, ∃ o : Int, ∃ d1 : Value, ∃ d2 : Value, ρ 6 = .int .i64 (fit : Int) ∧ ρ 7 = .string dt ∧ ρ 8 = v102_327 ∧ ρ 11 = .pointer (some ⟨g11, 0, none⟩) ∧ Hold w [] w' [rR kCal 29 v102_327 ((List.range (2 * fit + 6)).map (Cf fit dt)), rR kAns 42 av ((List.range (2 * fit + 6)).map (Af fit dt)), rB g11 35 ([.int .i64 0, .bool false, av, .int .i64 o, d1, d2])]) mixed ?_ ?_
            · intro w331 c331
              have H90 : Hold w [] w331 [rB g3 25 ([.int .i64 s, .int .i64 b]), rR kCal 29 v102_327 ((List.range (2 * fit + 6)).map (Cf fit dt)), rB g88 29 ([.int .i64 1, .string (⟨#[103]⟩ : ByteArray), .string dt, .int .i64 0]), rB g92 29 ([.int .i64 6, .string ⟨#[]⟩, .string ⟨#[]⟩, .int .i64 0]), rB g97 29 ([.int .i64 1, .string (⟨#[103]⟩ : ByteArray), .string dt, .int .i64 0]), rB g101 29 ([.int .i64 2, .string (⟨#[103]⟩ : ByteArray), .string ⟨#[]⟩, .int .i64 0])] := Hold.t H89 c331
              clear H89
              clear c331
              have H332d0 : Hold w331 [] w331 [] := Hold.start w331
              refine ⟨fun w' => Ch [] w331 w', Ch.refl _ _, ?_⟩
              have b333 : B w331 g3 25 ([.int .i64 s, .int .i64 b]) := Hold.blk H90 0 rfl
              refine edt 0 rfl (by kernel_rfl) (fun w' hS => lab [.int .i64 s, .int .i64 b] Tryz.underlying25 rfl ti25 z3 (hS.b0 b333) rfl rfl) (edt 2 rfl (by kernel_rfl) (fun w' hS => lab [.int .i64 s, .int .i64 b] Tryz.underlying25 rfl ti25 z3 (hS.b0 b333) rfl rfl) (edt 3 rfl (by kernel_rfl) (fun w' hS => mv z8) ?_))
              refine ed2 1 5 (by kernel_rfl) ?_ ?_
              · refine euc rfl go7 (ac rfl an) (impl_FormatDisk) ?_
                rintro r wD ⟨dv, wv, rfl, HD⟩
                rw [show fmtD s b = (fmX s b, []) from if_pos hg] at HD
                have H91d : Hold w331 [] wD [rR u8 5 dv (fmX s b), rR kW 100 wv ([] : List Wr)] := Hold.news H332d0 HD
                clear H332d0
                clear HD
                refine ⟨.inr (Hold.ch H91d), ?_⟩
                refine ed2 4 5 (by kernel_rfl) ?_ ?_
                · obtain ⟨_, R336⟩ : ∃ F, Kd.R u8 wD F dv (fmX s b) := Hold.row H91d 0 rfl
                  obtain ⟨_, R337⟩ : ∃ F, Kd.R kW wD F wv ([] : List Wr) := Hold.row H91d 1 rfl
                  obtain ⟨_, R338⟩ : ∃ F, Kd.R kCal w331 F v102_327 ((List.range (2 * fit + 6)).map (Cf fit dt)) := Hold.row H90 1 rfl
                  refine euc rfl go6 (ac rfl (ac rfl (ac rfl (ac rfl an)))) (impl_Run (J := Jf s b n fit dt) (A := Af fit dt) (C := (List.range (2 * fit + 6)).map (Cf fit dt)) R336 R337 hg (R338.t (Hold.ch H91d)) (by simp; omega) (fun gd tv => spc_start C gd tv _) (spc_calls C)) ?_
                  rintro r wR ⟨av, o, d1, d2, rfl, ⟨o1, o2⟩, HR⟩
                  rw [show ((List.range ((List.range (2 * fit + 6)).map (Cf fit dt)).length).map (Af fit dt)) = (List.range (2 * fit + 6)).map (Af fit dt) by simp] at HR
                  have H92d : Hold w331 [] wR [rR u8 5 dv (fmX s b), rR kW 100 wv ([] : List Wr), rR kAns 42 av ((List.range (2 * fit + 6)).map (Af fit dt))] := Hold.news H91d HR
                  clear H91d
                  clear HR
                  refine ⟨.inr (Hold.ch H92d), ?_⟩
                  refine ed1 5 (by kernel_rfl) <| euf rfl (xal ti35) ?_
                  rintro _ w339 ⟨g11, e339, rfl, -, b339, c339⟩
                  have H93d : Hold w331 [] w339 [rR u8 5 dv (fmX s b), rR kW 100 wv ([] : List Wr), rR kAns 42 av ((List.range (2 * fit + 6)).map (Af fit dt)), rB g11 35 ([.int .i64 0, .bool false, .slice none 0 0, .int .i64 0, .slice none 0 0, .slice none 0 0])] := Hold.newB H92d e339 b339 c339
                  clear H92d
                  clear e339 b339 c339
                  refine ⟨.inr (Hold.ch H93d), ?_⟩
                  have H94 : Hold w [] w339 [rB g3 25 ([.int .i64 s, .int .i64 b]), rR kCal 29 v102_327 ((List.range (2 * fit + 6)).map (Cf fit dt)), rB g88 29 ([.int .i64 1, .string (⟨#[103]⟩ : ByteArray), .string dt, .int .i64 0]), rB g92 29 ([.int .i64 6, .string ⟨#[]⟩, .string ⟨#[]⟩, .int .i64 0]), rB g97 29 ([.int .i64 1, .string (⟨#[103]⟩ : ByteArray), .string dt, .int .i64 0]), rB g101 29 ([.int .i64 2, .string (⟨#[103]⟩ : ByteArray), .string ⟨#[]⟩, .int .i64 0]), rR u8 5 dv (fmX s b), rR kW 100 wv ([] : List Wr), rR kAns 42 av ((List.range (2 * fit + 6)).map (Af fit dt)), rB g11 35 ([.int .i64 0, .bool false, .slice none 0 0, .int .i64 0, .slice none 0 0, .slice none 0 0])] := Hold.news H90 H93d
                  clear H93d H90
                  have b340 : B w339 g11 35 ([.int .i64 0, .bool false, .slice none 0 0, .int .i64 0, .slice none 0 0, .slice none 0 0]) := Hold.blk H94 9 rfl
                  obtain ⟨_, R342⟩ : ∃ F, Kd.R kAns w339 F av ((List.range (2 * fit + 6)).map (Af fit dt)) := Hold.row H94 8 rfl
                  refine ed1 6 (by kernel_rfl) <| euf0 rfl (xst (vs := [.int .i64 0, .bool false, av, .int .i64 o, d1, d2]) ti35 rfl rfl rfl b340 rfl (Nat.le_of_ble_eq_true rfl) (oc rfl (oc rfl (oc (R342).oneCell (oc rfl (oc o1 (oc o2 on))))))) ?_
                  rintro w341 ⟨-, b341, c341⟩
                  have H95 : Hold w [] w341 [rB g3 25 ([.int .i64 s, .int .i64 b]), rR kCal 29 v102_327 ((List.range (2 * fit + 6)).map (Cf fit dt)), rB g88 29 ([.int .i64 1, .string (⟨#[103]⟩ : ByteArray), .string dt, .int .i64 0]), rB g92 29 ([.int .i64 6, .string ⟨#[]⟩, .string ⟨#[]⟩, .int .i64 0]), rB g97 29 ([.int .i64 1, .string (⟨#[103]⟩ : ByteArray), .string dt, .int .i64 0]), rB g101 29 ([.int .i64 2, .string (⟨#[103]⟩ : ByteArray), .string ⟨#[]⟩, .int .i64 0]), rR u8 5 dv (fmX s b), rR kW 100 wv ([] : List Wr), rR kAns 42 av ((List.range (2 * fit + 6)).map (Af fit dt)), rB g11 35 ([.int .i64 0, .bool false, av, .int .i64 o, d1, d2])] := Hold.setB H94 9 rfl b341 c341 rfl
                  clear H94
                  clear b341 c341
                  refine ⟨.inl (by kernel_rfl), ?_⟩
                  refine edd (by kernel_rfl) ?_
                  have H96 : Hold w [] w341 [rR kCal 29 v102_327 ((List.range (2 * fit + 6)).map (Cf fit dt)), rR kAns 42 av ((List.range (2 * fit + 6)).map (Af fit dt)), rB g11 35 ([.int .i64 0, .bool false, av, .int .i64 o, d1, d2])] := (show Hold w [] w341 ([rR kCal 29 v102_327 ((List.range (2 * fit + 6)).map (Cf fit dt)), rR kAns 42 av ((List.range (2 * fit + 6)).map (Af fit dt)), rB g11 35 ([.int .i64 0, .bool false, av, .int .i64 o, d1, d2])] ++ [rB g3 25 ([.int .i64 s, .int .i64 b]), rB g88 29 ([.int .i64 1, .string (⟨#[103]⟩ : ByteArray), .string dt, .int .i64 0]), rB g92 29 ([.int .i64 6, .string ⟨#[]⟩, .string ⟨#[]⟩, .int .i64 0]), rB g97 29 ([.int .i64 1, .string (⟨#[103]⟩ : ByteArray), .string dt, .int .i64 0]), rB g101 29 ([.int .i64 2, .string (⟨#[103]⟩ : ByteArray), .string ⟨#[]⟩, .int .i64 0]), rR u8 5 dv (fmX s b), rR kW 100 wv ([] : List Wr)]) from Hold.re H95 [1, 8, 9, 0, 2, 3, 4, 5, 6, 7] (by kernel_rfl) (by rfl)).drop
                  clear H95
                  exact ⟨g11, av, o, d1, d2, z6, z7, z8, rfl, H96⟩
                · refine euf rfl (xal ti35) ?_
                  rintro _ w335 ⟨g11, e335, rfl, -, b335, c335⟩
                  have H92d : Hold w331 [] w335 [rR u8 5 dv (fmX s b), rR kW 100 wv ([] : List Wr), rB g11 35 ([.int .i64 0, .bool false, .slice none 0 0, .int .i64 0, .slice none 0 0, .slice none 0 0])] := Hold.newB H91d e335 b335 c335
                  clear H91d
                  clear e335 b335 c335
                  refine ⟨.inr (Hold.ch H92d), ?_⟩
                  obtain ⟨_, R337⟩ : ∃ F, Kd.R u8 w335 F dv (fmX s b) := Hold.row H92d 0 rfl
                  obtain ⟨_, R338⟩ : ∃ F, Kd.R kW w335 F wv ([] : List Wr) := Hold.row H92d 1 rfl
                  obtain ⟨_, R339⟩ : ∃ F, Kd.R kCal w331 F v102_327 ((List.range (2 * fit + 6)).map (Cf fit dt)) := Hold.row H90 1 rfl
                  refine ed1 4 (by kernel_rfl) <| euc rfl go6 (ac rfl (ac rfl (ac rfl (ac rfl an)))) (impl_Run (J := Jf s b n fit dt) (A := Af fit dt) (C := (List.range (2 * fit + 6)).map (Cf fit dt)) R337 R338 hg (R339.t (Hold.ch H92d)) (by simp; omega) (fun gd tv => spc_start C gd tv _) (spc_calls C)) ?_
                  rintro r wR ⟨av, o, d1, d2, rfl, ⟨o1, o2⟩, HR⟩
                  rw [show ((List.range ((List.range (2 * fit + 6)).map (Cf fit dt)).length).map (Af fit dt)) = (List.range (2 * fit + 6)).map (Af fit dt) by simp] at HR
                  have H93d : Hold w331 [] wR [rR u8 5 dv (fmX s b), rR kW 100 wv ([] : List Wr), rB g11 35 ([.int .i64 0, .bool false, .slice none 0 0, .int .i64 0, .slice none 0 0, .slice none 0 0]), rR kAns 42 av ((List.range (2 * fit + 6)).map (Af fit dt))] := Hold.news H92d HR
                  clear H92d
                  clear HR
                  refine ⟨.inr (Hold.ch H93d), ?_⟩
                  have H94 : Hold w [] wR [rB g3 25 ([.int .i64 s, .int .i64 b]), rR kCal 29 v102_327 ((List.range (2 * fit + 6)).map (Cf fit dt)), rB g88 29 ([.int .i64 1, .string (⟨#[103]⟩ : ByteArray), .string dt, .int .i64 0]), rB g92 29 ([.int .i64 6, .string ⟨#[]⟩, .string ⟨#[]⟩, .int .i64 0]), rB g97 29 ([.int .i64 1, .string (⟨#[103]⟩ : ByteArray), .string dt, .int .i64 0]), rB g101 29 ([.int .i64 2, .string (⟨#[103]⟩ : ByteArray), .string ⟨#[]⟩, .int .i64 0]), rR u8 5 dv (fmX s b), rR kW 100 wv ([] : List Wr), rB g11 35 ([.int .i64 0, .bool false, .slice none 0 0, .int .i64 0, .slice none 0 0, .slice none 0 0]), rR kAns 42 av ((List.range (2 * fit + 6)).map (Af fit dt))] := Hold.news H90 H93d
                  clear H93d H90
                  have b340 : B wR g11 35 ([.int .i64 0, .bool false, .slice none 0 0, .int .i64 0, .slice none 0 0, .slice none 0 0]) := Hold.blk H94 8 rfl
                  obtain ⟨_, R342⟩ : ∃ F, Kd.R kAns wR F av ((List.range (2 * fit + 6)).map (Af fit dt)) := Hold.row H94 9 rfl
                  refine ed1 6 (by kernel_rfl) <| euf0 rfl (xst (vs := [.int .i64 0, .bool false, av, .int .i64 o, d1, d2]) ti35 rfl rfl rfl b340 rfl (Nat.le_of_ble_eq_true rfl) (oc rfl (oc rfl (oc (R342).oneCell (oc rfl (oc o1 (oc o2 on))))))) ?_
                  rintro w341 ⟨-, b341, c341⟩
                  have H95 : Hold w [] w341 [rB g3 25 ([.int .i64 s, .int .i64 b]), rR kCal 29 v102_327 ((List.range (2 * fit + 6)).map (Cf fit dt)), rB g88 29 ([.int .i64 1, .string (⟨#[103]⟩ : ByteArray), .string dt, .int .i64 0]), rB g92 29 ([.int .i64 6, .string ⟨#[]⟩, .string ⟨#[]⟩, .int .i64 0]), rB g97 29 ([.int .i64 1, .string (⟨#[103]⟩ : ByteArray), .string dt, .int .i64 0]), rB g101 29 ([.int .i64 2, .string (⟨#[103]⟩ : ByteArray), .string ⟨#[]⟩, .int .i64 0]), rR u8 5 dv (fmX s b), rR kW 100 wv ([] : List Wr), rB g11 35 ([.int .i64 0, .bool false, av, .int .i64 o, d1, d2]), rR kAns 42 av ((List.range (2 * fit + 6)).map (Af fit dt))] := Hold.setB H94 8 rfl b341 c341 rfl
                  clear H94
                  clear b341 c341
                  refine ⟨.inl (by kernel_rfl), ?_⟩
                  refine edd (by kernel_rfl) ?_
                  have H96 : Hold w [] w341 [rR kCal 29 v102_327 ((List.range (2 * fit + 6)).map (Cf fit dt)), rR kAns 42 av ((List.range (2 * fit + 6)).map (Af fit dt)), rB g11 35 ([.int .i64 0, .bool false, av, .int .i64 o, d1, d2])] := (show Hold w [] w341 ([rR kCal 29 v102_327 ((List.range (2 * fit + 6)).map (Cf fit dt)), rR kAns 42 av ((List.range (2 * fit + 6)).map (Af fit dt)), rB g11 35 ([.int .i64 0, .bool false, av, .int .i64 o, d1, d2])] ++ [rB g3 25 ([.int .i64 s, .int .i64 b]), rB g88 29 ([.int .i64 1, .string (⟨#[103]⟩ : ByteArray), .string dt, .int .i64 0]), rB g92 29 ([.int .i64 6, .string ⟨#[]⟩, .string ⟨#[]⟩, .int .i64 0]), rB g97 29 ([.int .i64 1, .string (⟨#[103]⟩ : ByteArray), .string dt, .int .i64 0]), rB g101 29 ([.int .i64 2, .string (⟨#[103]⟩ : ByteArray), .string ⟨#[]⟩, .int .i64 0]), rR u8 5 dv (fmX s b), rR kW 100 wv ([] : List Wr)]) from Hold.re H95 [1, 9, 8, 0, 2, 3, 4, 5, 6, 7] (by kernel_rfl) (by rfl)).drop
                  clear H95
                  exact ⟨g11, av, o, d1, d2, z6, z7, z8, rfl, H96⟩
              · refine euf rfl (xal ti35) ?_
                rintro _ w334 ⟨g11, e334, rfl, -, b334, c334⟩
                have H91d : Hold w331 [] w334 [rB g11 35 ([.int .i64 0, .bool false, .slice none 0 0, .int .i64 0, .slice none 0 0, .slice none 0 0])] := Hold.newB H332d0 e334 b334 c334
                clear H332d0
                clear e334 b334 c334
                refine ⟨.inr (Hold.ch H91d), ?_⟩
                refine ed1 1 (by kernel_rfl) <| euc rfl go7 (ac rfl an) (impl_FormatDisk) ?_
                rintro r wD ⟨dv, wv, rfl, HD⟩
                rw [show fmtD s b = (fmX s b, []) from if_pos hg] at HD
                have H92d : Hold w331 [] wD [rB g11 35 ([.int .i64 0, .bool false, .slice none 0 0, .int .i64 0, .slice none 0 0, .slice none 0 0]), rR u8 5 dv (fmX s b), rR kW 100 wv ([] : List Wr)] := Hold.news H91d HD
                clear H91d
                clear HD
                refine ⟨.inr (Hold.ch H92d), ?_⟩
                obtain ⟨_, R337⟩ : ∃ F, Kd.R u8 wD F dv (fmX s b) := Hold.row H92d 1 rfl
                obtain ⟨_, R338⟩ : ∃ F, Kd.R kW wD F wv ([] : List Wr) := Hold.row H92d 2 rfl
                obtain ⟨_, R339⟩ : ∃ F, Kd.R kCal w331 F v102_327 ((List.range (2 * fit + 6)).map (Cf fit dt)) := Hold.row H90 1 rfl
                refine ed1 4 (by kernel_rfl) <| euc rfl go6 (ac rfl (ac rfl (ac rfl (ac rfl an)))) (impl_Run (J := Jf s b n fit dt) (A := Af fit dt) (C := (List.range (2 * fit + 6)).map (Cf fit dt)) R337 R338 hg (R339.t (Hold.ch H92d)) (by simp; omega) (fun gd tv => spc_start C gd tv _) (spc_calls C)) ?_
                rintro r wR ⟨av, o, d1, d2, rfl, ⟨o1, o2⟩, HR⟩
                rw [show ((List.range ((List.range (2 * fit + 6)).map (Cf fit dt)).length).map (Af fit dt)) = (List.range (2 * fit + 6)).map (Af fit dt) by simp] at HR
                have H93d : Hold w331 [] wR [rB g11 35 ([.int .i64 0, .bool false, .slice none 0 0, .int .i64 0, .slice none 0 0, .slice none 0 0]), rR u8 5 dv (fmX s b), rR kW 100 wv ([] : List Wr), rR kAns 42 av ((List.range (2 * fit + 6)).map (Af fit dt))] := Hold.news H92d HR
                clear H92d
                clear HR
                refine ⟨.inr (Hold.ch H93d), ?_⟩
                have H94 : Hold w [] wR [rB g3 25 ([.int .i64 s, .int .i64 b]), rR kCal 29 v102_327 ((List.range (2 * fit + 6)).map (Cf fit dt)), rB g88 29 ([.int .i64 1, .string (⟨#[103]⟩ : ByteArray), .string dt, .int .i64 0]), rB g92 29 ([.int .i64 6, .string ⟨#[]⟩, .string ⟨#[]⟩, .int .i64 0]), rB g97 29 ([.int .i64 1, .string (⟨#[103]⟩ : ByteArray), .string dt, .int .i64 0]), rB g101 29 ([.int .i64 2, .string (⟨#[103]⟩ : ByteArray), .string ⟨#[]⟩, .int .i64 0]), rB g11 35 ([.int .i64 0, .bool false, .slice none 0 0, .int .i64 0, .slice none 0 0, .slice none 0 0]), rR u8 5 dv (fmX s b), rR kW 100 wv ([] : List Wr), rR kAns 42 av ((List.range (2 * fit + 6)).map (Af fit dt))] := Hold.news H90 H93d
                clear H93d H90
                have b340 : B wR g11 35 ([.int .i64 0, .bool false, .slice none 0 0, .int .i64 0, .slice none 0 0, .slice none 0 0]) := Hold.blk H94 6 rfl
                obtain ⟨_, R342⟩ : ∃ F, Kd.R kAns wR F av ((List.range (2 * fit + 6)).map (Af fit dt)) := Hold.row H94 9 rfl
                refine ed1 6 (by kernel_rfl) <| euf0 rfl (xst (vs := [.int .i64 0, .bool false, av, .int .i64 o, d1, d2]) ti35 rfl rfl rfl b340 rfl (Nat.le_of_ble_eq_true rfl) (oc rfl (oc rfl (oc (R342).oneCell (oc rfl (oc o1 (oc o2 on))))))) ?_
                rintro w341 ⟨-, b341, c341⟩
                have H95 : Hold w [] w341 [rB g3 25 ([.int .i64 s, .int .i64 b]), rR kCal 29 v102_327 ((List.range (2 * fit + 6)).map (Cf fit dt)), rB g88 29 ([.int .i64 1, .string (⟨#[103]⟩ : ByteArray), .string dt, .int .i64 0]), rB g92 29 ([.int .i64 6, .string ⟨#[]⟩, .string ⟨#[]⟩, .int .i64 0]), rB g97 29 ([.int .i64 1, .string (⟨#[103]⟩ : ByteArray), .string dt, .int .i64 0]), rB g101 29 ([.int .i64 2, .string (⟨#[103]⟩ : ByteArray), .string ⟨#[]⟩, .int .i64 0]), rB g11 35 ([.int .i64 0, .bool false, av, .int .i64 o, d1, d2]), rR u8 5 dv (fmX s b), rR kW 100 wv ([] : List Wr), rR kAns 42 av ((List.range (2 * fit + 6)).map (Af fit dt))] := Hold.setB H94 6 rfl b341 c341 rfl
                clear H94
                clear b341 c341
                refine ⟨.inl (by kernel_rfl), ?_⟩
                refine edd (by kernel_rfl) ?_
                have H96 : Hold w [] w341 [rR kCal 29 v102_327 ((List.range (2 * fit + 6)).map (Cf fit dt)), rR kAns 42 av ((List.range (2 * fit + 6)).map (Af fit dt)), rB g11 35 ([.int .i64 0, .bool false, av, .int .i64 o, d1, d2])] := (show Hold w [] w341 ([rR kCal 29 v102_327 ((List.range (2 * fit + 6)).map (Cf fit dt)), rR kAns 42 av ((List.range (2 * fit + 6)).map (Af fit dt)), rB g11 35 ([.int .i64 0, .bool false, av, .int .i64 o, d1, d2])] ++ [rB g3 25 ([.int .i64 s, .int .i64 b]), rB g88 29 ([.int .i64 1, .string (⟨#[103]⟩ : ByteArray), .string dt, .int .i64 0]), rB g92 29 ([.int .i64 6, .string ⟨#[]⟩, .string ⟨#[]⟩, .int .i64 0]), rB g97 29 ([.int .i64 1, .string (⟨#[103]⟩ : ByteArray), .string dt, .int .i64 0]), rB g101 29 ([.int .i64 2, .string (⟨#[103]⟩ : ByteArray), .string ⟨#[]⟩, .int .i64 0]), rR u8 5 dv (fmX s b), rR kW 100 wv ([] : List Wr)]) from Hold.re H95 [1, 9, 6, 0, 2, 3, 4, 5, 7, 8] (by kernel_rfl) (by rfl)).drop
                clear H95
                exact ⟨g11, av, o, d1, d2, z6, z7, z8, rfl, H96⟩
            rintro ρ w639 ⟨g11, av, o, d1, d2, y6, y7, y8, y11, H139⟩
            clear H89
            obtain ⟨_, R434⟩ : ∃ F, Kd.R kCal w639 F v102_327 ((List.range (2 * fit + 6)).map (Cf fit dt)) := Hold.row H139 0 rfl
            have b435 : B w639 g11 35 ([.int .i64 0, .bool false, av, .int .i64 o, d1, d2]) := Hold.blk H139 2 rfl
            refine sq (rg (r (mv y8) (r (Rn.cast (v' := .int .i64 ((2 * fit + 6 : Nat) : Int)) (ln Tryz.underlying26 rfl (R434)) (congrArg (fun z : Nat => Value.int .i64 (z : Int)) hcl)) (r (sa rfl) (re (sq (sq (rg (r (fa Tryz.underlying35 rfl ti2 rfl y11) (r (ldb Tryz.underlying2 rfl rfl b435 rfl) (r (bi rfl rfl rfl) (r (mv rfl) ?_))))))))))))
            refine spf 113 rfl (show (!decide ((0 : Int) = 0)) = false from (by rw [decide_eq_true (by omega)]; rfl)) ?_
            obtain ⟨_, R436⟩ : ∃ F, Kd.R kAns w639 F av ((List.range (2 * fit + 6)).map (Af fit dt)) := Hold.row H139 1 rfl
            refine gy rfl rfl rfl (r (fa Tryz.underlying35 rfl ti30 rfl y11) (gy rfl rfl rfl (r (ldb Tryz.underlying30 rfl rfl b435 rfl) (gy rfl rfl rfl (r (Rn.cast (v' := .int .i64 ((2 * fit + 6 : Nat) : Int)) (ln Tryz.underlying30 rfl (R436)) (congrArg (fun z : Nat => Value.int .i64 (z : Int)) hal)) (gy rfl rfl rfl (r (mv rfl) (gy rfl rfl rfl (r (bi rfl rfl rfl) (r (pk rfl rfl) (re ?_)))))))))))
            refine cf ((rfl : _ = Value.bool (!decide (((2 * fit + 6 : Nat) : Int) = ((2 * fit + 6 : Nat) : Int)))).trans (congrArg Value.bool (show (!decide (((2 * fit + 6 : Nat) : Int) = ((2 * fit + 6 : Nat) : Int))) = false from (by rw [decide_eq_true rfl]; rfl)))) ?_
            refine sk (sq (sq ?_))
            refine gen (fun ρ => ρ 6 = .int .i64 (fit : Int) ∧ ρ 7 = .string dt ∧ ρ 11 = .pointer (some ⟨g11, 0, none⟩) ∧ ρ 12 = .int .i64 ((2 * fit + 6 : Nat) : Int) ∧ True) ⟨y6, y7, y11, rfl, trivial⟩ ?_
            rintro ρ ⟨z6, z7, z11, z12, -⟩
            refine rg (r (sa rfl) (re (bl ?_)))
            have H140 : Hold w [] w639 [rR kAns 42 av ((List.range (2 * fit + 6)).map (Af fit dt)), rB g11 35 ([.int .i64 0, .bool false, av, .int .i64 o, d1, d2])] := (show Hold w [] w639 ([rR kAns 42 av ((List.range (2 * fit + 6)).map (Af fit dt)), rB g11 35 ([.int .i64 0, .bool false, av, .int .i64 o, d1, d2])] ++ [rR kCal 29 v102_327 ((List.range (2 * fit + 6)).map (Cf fit dt))]) from Hold.re H139 [1, 2, 0] (by kernel_rfl) (by rfl)).drop
            clear H139
            refine lp (α := Nat) (fun k ρ w' => ρ 6 = .int .i64 (fit : Int) ∧ ρ 7 = .string dt ∧ ρ 11 = .pointer (some ⟨g11, 0, none⟩) ∧ ρ 12 = .int .i64 ((2 * fit + 6 : Nat) : Int) ∧ ρ 13 = .int .i64 (k : Int) ∧ Hold w [] w' [rR kAns 42 av ((List.range (2 * fit + 6)).map (Af fit dt)), rB g11 35 ([.int .i64 0, .bool false, av, .int .i64 o, d1, d2])] ∧ k ≤ 2 * fit + 2) (fun k => 2 * fit + 2 - k) 0 ?_ ?_
            · exact ⟨z6, z7, z11, z12, rfl, H140, by omega⟩
            clear H140
            rintro k ρ w641 ⟨y6, y7, y11, y12, y13, H141, hk⟩
            refine sq (sq (rg (r (mv y13) (r (mv y12) (r (sb (a := ((2 * fit + 6 : Nat) : Int)) (b := 4) (((2 * fit + 2 : Nat) : Int)) rfl rfl (by omega)) (r (bi rfl rfl rfl) (re ?_)))))))
            refine cp rfl (fun hlt3 => ?_) (fun hlt3 => ?_)
            · have hk' : k < ((List.range (2 * fit + 6)).map (Af fit dt)).length := by rw [hal]; omega
              have hw := As_want (fit := fit) (dt := dt) (i := k) (by omega)
              have hA := congrArg Prod.fst (As_get hk' rfl)
              rw [hw] at hA
              refine sk (sq (bl (sq (rg (r (sa rfl) (re (sq (sq (rg (r (mv y13) (r (mv y6) (r (bi rfl rfl rfl) (re ?_)))))))))))))
              refine cp rfl (fun he => ?_) (fun he => ?_)
              · rw [if_pos (by omega)] at hA
                have b437 : B w641 g11 35 ([.int .i64 0, .bool false, av, .int .i64 o, d1, d2]) := Hold.blk H141 1 rfl
                obtain ⟨_, R438⟩ : ∃ F, Kd.R kAns w641 F av ((List.range (2 * fit + 6)).map (Af fit dt)) := Hold.row H141 0 rfl
                refine rg (r (sa rfl) (re (sq (rg (r (fa Tryz.underlying35 rfl ti30 rfl y11) (r (ldb Tryz.underlying30 rfl rfl b437 rfl) (r (mv y13) ?_)))))))
                obtain ⟨c132_439, ad132_439, k132_439, e132_439, p132_439⟩ := Kd.R.place R438 k (hk')
                have q132_439 := flat_at p132_439
                refine r (ix (j := k) Tryz.underlying30 ti42 e132_439 rfl (hk')) (r (fa' Tryz.underlying42 rfl ti2 rfl rfl) (r (Rn.cast (v' := .int .i64 24) (ld Tryz.underlying2 rfl rfl (q132_439 0 _ rfl)) (congrArg (Value.int .i64) hA)) (r (mv rfl) (r (bi rfl rfl rfl) (re ?_)))))
                refine cf ((rfl : _ = Value.bool (!decide ((24 : Int) = 24))).trans (congrArg Value.bool (show (!decide ((24 : Int) = 24)) = false from (by rw [decide_eq_true (by omega)]; rfl)))) ?_
                refine sk (be ?_)
                refine gen (fun ρ => ρ 6 = .int .i64 (fit : Int) ∧ ρ 7 = .string dt ∧ ρ 11 = .pointer (some ⟨g11, 0, none⟩) ∧ ρ 12 = .int .i64 ((2 * fit + 6 : Nat) : Int) ∧ ρ 13 = .int .i64 (k : Int) ∧ True) ⟨y6, y7, y11, y12, y13, trivial⟩ ?_
                rintro ρ ⟨z6, z7, z11, z12, z13, -⟩
                refine rg (r (mv z13) (r (ad (a := (k : Int)) (b := 1) ((k : Int) + 1) rfl rfl (by omega)) (r (sa rfl) (re ?_))))
                exact ag (k + 1) ⟨z6, z7, z11, z12, rfl, H141, by omega⟩ (by first | omega | (dsimp only; omega))
              · rw [if_neg (by omega)] at hA
                have b437 : B w641 g11 35 ([.int .i64 0, .bool false, av, .int .i64 o, d1, d2]) := Hold.blk H141 1 rfl
                obtain ⟨_, R438⟩ : ∃ F, Kd.R kAns w641 F av ((List.range (2 * fit + 6)).map (Af fit dt)) := Hold.row H141 0 rfl
                refine sk (sq (rg (r (fa Tryz.underlying35 rfl ti30 rfl y11) (r (ldb Tryz.underlying30 rfl rfl b437 rfl) (r (mv y13) ?_)))))
                obtain ⟨c132_439, ad132_439, k132_439, e132_439, p132_439⟩ := Kd.R.place R438 k (hk')
                have q132_439 := flat_at p132_439
                refine r (ix (j := k) Tryz.underlying30 ti42 e132_439 rfl (hk')) (r (fa' Tryz.underlying42 rfl ti2 rfl rfl) (r (Rn.cast (v' := .int .i64 0) (ld Tryz.underlying2 rfl rfl (q132_439 0 _ rfl)) (congrArg (Value.int .i64) hA)) (r (mv rfl) (r (bi rfl rfl rfl) (re ?_)))))
                refine cf ((rfl : _ = Value.bool (!decide ((0 : Int) = 0))).trans (congrArg Value.bool (show (!decide ((0 : Int) = 0)) = false from (by rw [decide_eq_true (by omega)]; rfl)))) ?_
                refine sk (be ?_)
                refine gen (fun ρ => ρ 6 = .int .i64 (fit : Int) ∧ ρ 7 = .string dt ∧ ρ 11 = .pointer (some ⟨g11, 0, none⟩) ∧ ρ 12 = .int .i64 ((2 * fit + 6 : Nat) : Int) ∧ ρ 13 = .int .i64 (k : Int) ∧ True) ⟨y6, y7, y11, y12, y13, trivial⟩ ?_
                rintro ρ ⟨z6, z7, z11, z12, z13, -⟩
                refine rg (r (mv z13) (r (ad (a := (k : Int)) (b := 1) ((k : Int) + 1) rfl rfl (by omega)) (r (sa rfl) (re ?_))))
                exact ag (k + 1) ⟨z6, z7, z11, z12, rfl, H141, by omega⟩ (by first | omega | (dsimp only; omega))
            · have ha : 2 * fit + 2 < ((List.range (2 * fit + 6)).map (Af fit dt)).length := by rw [hal]; omega
              have Aa := As_get ha Af_2
              have b437 : B w641 g11 35 ([.int .i64 0, .bool false, av, .int .i64 o, d1, d2]) := Hold.blk H141 1 rfl
              obtain ⟨_, R438⟩ : ∃ F, Kd.R kAns w641 F av ((List.range (2 * fit + 6)).map (Af fit dt)) := Hold.row H141 0 rfl
              refine ex rfl (sq (sq (rg (r (fa Tryz.underlying35 rfl ti30 rfl y11) (r (ldb Tryz.underlying30 rfl rfl b437 rfl) (r (mv y12) (r (sb (a := ((2 * fit + 6 : Nat) : Int)) (b := 4) (((2 * fit + 2 : Nat) : Int)) rfl rfl (by omega)) ?_)))))))
              obtain ⟨c141_439, ad141_439, k141_439, e141_439, p141_439⟩ := Kd.R.place R438 (2 * fit + 2) (ha)
              have q141_439 := flat_at p141_439
              refine r (ix (j := 2 * fit + 2) Tryz.underlying30 ti42 e141_439 rfl (ha)) (r (fa' Tryz.underlying42 rfl ti2 rfl rfl) (r (Rn.cast (v' := .int .i64 24) (ld Tryz.underlying2 rfl rfl (q141_439 0 _ rfl)) (congrArg (fun z : Int × ByteArray => Value.int .i64 z.1) Aa)) (r (bi rfl rfl rfl) (re ?_))))
              refine cf ((rfl : _ = Value.bool (!decide ((24 : Int) = 24))).trans (congrArg Value.bool (show (!decide ((24 : Int) = 24)) = false from (by rw [decide_eq_true rfl]; rfl)))) ?_
              refine sk (sq (sq ?_))
              refine gen (fun ρ => ρ 6 = .int .i64 (fit : Int) ∧ ρ 7 = .string dt ∧ ρ 11 = .pointer (some ⟨g11, 0, none⟩) ∧ ρ 12 = .int .i64 ((2 * fit + 6 : Nat) : Int) ∧ True) ⟨y6, y7, y11, y12, trivial⟩ ?_
              rintro ρ ⟨z6, z7, z11, z12, -⟩
              refine rg (r (mv z6) (r (bi rfl rfl rfl) (re ?_)))
              refine cp rfl (fun hz => ?_) (fun hz => ?_)
              · have hb : 2 * fit + 4 < ((List.range (2 * fit + 6)).map (Af fit dt)).length := by rw [hal]; omega
                have Ab := As_get hb (Af_4z (by omega))
                refine sq (rg (r (fa Tryz.underlying35 rfl ti30 rfl z11) (r (ldb Tryz.underlying30 rfl rfl b437 rfl) (r (mv z12) (r (sb (a := ((2 * fit + 6 : Nat) : Int)) (b := 2) (((2 * fit + 4 : Nat) : Int)) rfl rfl (by omega)) ?_)))))
                obtain ⟨c151_440, ad151_440, k151_440, e151_440, p151_440⟩ := Kd.R.place R438 (2 * fit + 4) (hb)
                have q151_440 := flat_at p151_440
                refine r (ix (j := 2 * fit + 4) Tryz.underlying30 ti42 e151_440 rfl (hb)) (r (fa' Tryz.underlying42 rfl ti2 rfl rfl) (r (Rn.cast (v' := .int .i64 24) (ld Tryz.underlying2 rfl rfl (q151_440 0 _ rfl)) (congrArg (fun z : Int × ByteArray => Value.int .i64 z.1) Ab)) (r (Rn.cast (v' := .bool true) (bi rfl rfl rfl) rfl) (r (sa rfl) (re (rt ?_))))))
                exact fin1 (v := .bool true) Tryz.results3 rfl ⟨rfl, Hold.ch H141⟩
              · have hf0 : ¬ fit = 0 := by omega
                have hc : 2 * fit + 3 < ((List.range (2 * fit + 6)).map (Af fit dt)).length := by rw [hal]; omega
                have Ac := As_get hc Af_3
                have hd : 2 * fit + 4 < ((List.range (2 * fit + 6)).map (Af fit dt)).length := by rw [hal]; omega
                have Ad := As_get hd (Af_4 hf0)
                have he : 2 * fit + 5 < ((List.range (2 * fit + 6)).map (Af fit dt)).length := by rw [hal]; omega
                have Ae := As_get he (Af_5 hf0)
                refine sk (sq (rg (r (fa Tryz.underlying35 rfl ti30 rfl z11) (r (ldb Tryz.underlying30 rfl rfl b437 rfl) (r (mv z12) (r (sb (a := ((2 * fit + 6 : Nat) : Int)) (b := 3) (((2 * fit + 3 : Nat) : Int)) rfl rfl (by omega)) ?_))))))
                obtain ⟨c159_440, ad159_440, k159_440, e159_440, p159_440⟩ := Kd.R.place R438 (2 * fit + 3) (hc)
                have q159_440 := flat_at p159_440
                refine r (ix (j := 2 * fit + 3) Tryz.underlying30 ti42 e159_440 rfl (hc)) (r (fa' Tryz.underlying42 rfl ti2 rfl rfl) (r (Rn.cast (v' := .int .i64 0) (ld Tryz.underlying2 rfl rfl (q159_440 0 _ rfl)) (congrArg (fun z : Int × ByteArray => Value.int .i64 z.1) Ac)) (r (Rn.cast (v' := .bool true) (bi rfl rfl rfl) rfl) (r (mv rfl) (gy rfl rfl rfl (r (fa Tryz.underlying35 rfl ti30 rfl z11) (gy rfl rfl rfl (r (ldb Tryz.underlying30 rfl rfl b437 rfl) (gy rfl rfl rfl (r (mv z12) (gy rfl rfl rfl (r (sb (a := ((2 * fit + 6 : Nat) : Int)) (b := 2) (((2 * fit + 4 : Nat) : Int)) rfl rfl (by omega)) (gy rfl rfl rfl ?_)))))))))))))
                obtain ⟨c168_441, ad168_441, k168_441, e168_441, p168_441⟩ := Kd.R.place R438 (2 * fit + 4) (hd)
                have q168_441 := flat_at p168_441
                refine r (ix (j := 2 * fit + 4) Tryz.underlying30 ti42 e168_441 rfl (hd)) (gy rfl rfl rfl (r (fa' Tryz.underlying42 rfl ti2 rfl rfl) (gy rfl rfl rfl (r (Rn.cast (v' := .int .i64 0) (ld Tryz.underlying2 rfl rfl (q168_441 0 _ rfl)) (congrArg (fun z : Int × ByteArray => Value.int .i64 z.1) Ad)) (gy rfl rfl rfl (r (Rn.cast (v' := .bool true) (bi rfl rfl rfl) rfl) (r (Rn.cast (v' := .bool true) (pk rfl rfl) rfl) (r (mv rfl) (gy rfl rfl rfl (r (fa Tryz.underlying35 rfl ti30 rfl z11) (gy rfl rfl rfl (r (ldb Tryz.underlying30 rfl rfl b437 rfl) (gy rfl rfl rfl (r (mv z12) (gy rfl rfl rfl (r (sb (a := ((2 * fit + 6 : Nat) : Int)) (b := 1) (((2 * fit + 5 : Nat) : Int)) rfl rfl (by omega)) (gy rfl rfl rfl ?_)))))))))))))))))
                obtain ⟨c178_442, ad178_442, k178_442, e178_442, p178_442⟩ := Kd.R.place R438 (2 * fit + 5) (he)
                have q178_442 := flat_at p178_442
                refine r (ix (j := 2 * fit + 5) Tryz.underlying30 ti42 e178_442 rfl (he)) (gy rfl rfl rfl (r (fa' Tryz.underlying42 rfl ti2 rfl rfl) (gy rfl rfl rfl (r (Rn.cast (v' := .int .i64 0) (ld Tryz.underlying2 rfl rfl (q178_442 0 _ rfl)) (congrArg (fun z : Int × ByteArray => Value.int .i64 z.1) Ae)) (gy rfl rfl rfl (r (Rn.cast (v' := .bool true) (bi rfl rfl rfl) rfl) (r (Rn.cast (v' := .bool true) (pk rfl rfl) rfl) (r (mv rfl) (gy rfl rfl rfl (r (fa Tryz.underlying35 rfl ti30 rfl z11) (gy rfl rfl rfl (r (ldb Tryz.underlying30 rfl rfl b437 rfl) (gy rfl rfl rfl (r (mv z12) (gy rfl rfl rfl (r (sb (a := ((2 * fit + 6 : Nat) : Int)) (b := 1) (((2 * fit + 5 : Nat) : Int)) rfl rfl (by omega)) (gy rfl rfl rfl ?_)))))))))))))))))
                obtain ⟨c188_443, ad188_443, k188_443, e188_443, p188_443⟩ := Kd.R.place R438 (2 * fit + 5) (he)
                have q188_443 := flat_at p188_443
                refine r (ix (j := 2 * fit + 5) Tryz.underlying30 ti42 e188_443 rfl (he)) (gy rfl rfl rfl (r (fa' Tryz.underlying42 rfl ti9 rfl rfl) (gy rfl rfl rfl (r (Rn.cast (v' := .string dt) (ld Tryz.underlying9 rfl rfl (q188_443 1 _ rfl)) (congrArg (fun z : Int × ByteArray => Value.string z.2) Ae)) (gy rfl rfl rfl (r (mv z7) (gy rfl rfl rfl (r (Rn.cast (v' := .bool true) (seq rfl rfl) (congrArg Value.bool (decide_eq_true rfl))) (r (Rn.cast (v' := .bool true) (pk rfl rfl) rfl) (r (sa rfl) (re (rt ?_))))))))))))
                exact fin1 (v := .bool true) Tryz.results3 rfl ⟨rfl, Hold.ch H141⟩
end Go.Proofs.YtanfhikfeabidaaGreatDoor

namespace Go.Eng
open Go.ChangeShapes Go.WideShapes Go.ChangeAt Go.RowKit
set_option linter.unusedVariables false
set_option linter.unusedSimpArgs false

section
variable {H : Type} {enc : TypeId × Value → H} {P : Program} {w : World} {spare : Nat → Bool} {held : Bool}
/-- Whatever reads at type t is of kind dk, and ok. -/
def Opens (enc : TypeId × Value → H) (P : Program) (w : World) (spare : Nat → Bool) (held : Bool) {α : Type} (dk : Kd α) (ok : α → Prop) (t : TypeId) : Prop :=
  ∀ fuel cs x, DataW.trod enc P w 0 spare held fuel t cs = some x → ∃ F y, dk.K w F y cs ∧ ok y
theorem opens_int {t : TypeId} {k : IntKind} (ht : P.underlying t = some (.int k)) : Opens enc P w spare held (Kd.int k) (fun n => (Lit.int k n).wf = true) t := by
  intro fuel cs x h
  obtain ⟨n, rfl, _, hw⟩ := DataW.trod_int ht h
  exact ⟨[], n, ⟨rfl, rfl⟩, hw⟩
theorem cells?_row {a : Addr} {m : Nat} {cs : List Value} (h : w.cells? 0 a m = some cs) : cs.length = m ∧ ∀ j u, cs[j]? = some u → w.cell? (a.add j) = some u := by
  obtain ⟨_, h1, h2⟩ := World.cells?_some h
  refine ⟨h1, fun j u hu => ?_⟩
  rw [h2 j (by rw [← h1]; exact (List.getElem?_eq_some_iff.1 hu).1)]
  exact hu
theorem opens_slice {α : Type} {dk : Kd α} {ok : α → Prop} {t e : TypeId} {e0 : TypeId} (ht : P.underlying t = some (.slice e)) (hc : P.cellsOf e = dk.sz) (he : Opens enc P w spare held dk ok e) : Opens enc P w spare held (Kd.sl e0 dk) (fun xs => xs.length ≤ 9223372036854775807 ∧ ∀ x, x ∈ xs → ok x) t := by
  intro fuel cs x h
  rcases Go.Deep.open_slice ht h with ⟨rfl, rfl⟩ | ⟨a, len, cap, m, n, D, Pl, rfl, _, hl, hm, hmm, rfl, hel⟩
  · exact ⟨[], [], ⟨_, rfl, Kd.nil_R dk w⟩, by simp⟩
  · have hle : len ≤ m := by rw [hmm]; split <;> omega
    have key : ∀ k, k ≤ len → ∃ Fs ys cs', ys.length = k ∧ Els (dk.K w) Fs ys cs' ∧ (∀ y, y ∈ ys → ok y) ∧ ∀ j u, cs'[j]? = some u → w.cell? (a.add j) = some u := by
      intro k
      induction k with
      | zero => exact fun _ => ⟨[], [], [], rfl, ⟨rfl, rfl⟩, by simp, by simp⟩
      | succ k ih =>
        intro hk
        obtain ⟨Fs, ys, cs', hy, hE, hok, hcell⟩ := ih (by omega)
        obtain ⟨c1, hc1, ht1⟩ := hel k (by omega)
        obtain ⟨hl1, hr1⟩ := cells?_row hc1
        obtain ⟨F1, y1, hK1, hok1⟩ := he _ _ _ ht1
        have hlen := hE.length (sz := dk.sz) (fun _ _ _ h => dk.len h)
        refine ⟨Fs ++ F1, ys ++ [y1], cs' ++ c1, by simp [hy], hE.snoc hK1, ?_, ?_⟩
        · intro y hy'
          rcases List.mem_append.1 hy' with h | h
          · exact hok y h
          · rw [List.mem_singleton.1 h]; exact hok1
        · intro j u hu
          by_cases hj : j < cs'.length
          · rw [List.getElem?_append_left hj] at hu
            exact hcell j u hu
          · rw [List.getElem?_append_right (by omega)] at hu
            have := hr1 _ u hu
            rw [add_add, hc, ← hy, ← hlen] at this
            rwa [Nat.add_sub_cancel' (by omega)] at this
    obtain ⟨Fs, ys, cs', hy, hE, hok, hcell⟩ := key len (Nat.le_refl _)
    refine ⟨(if ys = [] then [] else [a.block]) ++ Fs, ys, ⟨_, rfl, some a, cap, _, Fs, cs', by rw [hy], by omega, rfl, ?_, hE, fun j u hu => ⟨a, rfl, ?_, hcell j u hu⟩⟩, by rw [hy]; simp only [maxLen] at hm; omega, hok⟩
    · intro k hk
      split at hk
      · cases hk
      · rename_i hne
        obtain rfl := List.mem_singleton.1 hk
        have hlen := hE.length (sz := dk.sz) (fun _ _ _ h => dk.len h)
        have hpos : 0 < cs'.length := by
          rw [hlen]
          exact Nat.mul_pos (List.length_pos_iff.2 hne) dk.pos
        have := World.block_lt_of_cell? w _ (hcell 0 _ (List.getElem?_eq_getElem hpos))
        simpa [Addr.add] using this
    · have hne : ys ≠ [] := by
        rintro rfl
        obtain ⟨_, rfl⟩ := hE
        simp at hu
      rw [if_neg hne]; simp
/-- The fields from one on. -/
def OpensF (enc : TypeId × Value → H) (P : Program) (w : World) (spare : Nat → Bool) (held : Bool) {α : Type} (dk : Kd α) (ok : α → Prop) (off : Nat) (fs : List Field) : Prop :=
  ∀ (fuel : Nat) (cs : List Value) (x : List (DataW H × List MemPlace)), cs.length = off + dk.sz → (fs.mapM fun f => DataW.trod enc P w 0 spare held fuel f.type ((cs.drop f.offset).take (P.cellsOf f.type))) = some x → ∃ F y, dk.K w F y (cs.drop off) ∧ ok y
/-- An argument that is a slice; a struct; a number; a text; a Bool. -/
theorem open_sl {α : Type} {dk : Kd α} {ok : α → Prop} {t e : TypeId} {v : Value} {d : DataW H} {ps : List MemPlace} {r : Reach} {b0 : Nat} (ht : P.underlying t = some (.slice e)) (hc : P.cellsOf e = dk.sz) (he : Opens enc P w spare held dk ok e)
    (hv : Value.okWide P w r b0 t v) (h : DataW.Trod enc P w 0 spare held t v d ps) : ∃ F xs, dk.R w F v xs ∧ xs.length ≤ 9223372036854775807 ∧ ∀ x, x ∈ xs → ok x := by
  obtain ⟨a, len, cap, rfl⟩ := okWide_slice ht hv
  obtain ⟨fuel, hf⟩ := h
  obtain ⟨F, xs, ⟨v', e', hR⟩, hok⟩ := opens_slice (e0 := 0) ht hc he fuel _ _ hf
  simp only [Value.cells, List.cons.injEq, and_true] at e'
  exact ⟨F, xs, e' ▸ hR, hok⟩
end
end Go.Eng

namespace Go.Proofs.YtanfhikfeabidaaGreatDoor.Head
open Go
set_option maxRecDepth 100000
def signs : List Char := [(Char.ofNat 104), (Char.ofNat 97), (Char.ofNat 114), (Char.ofNat 110), (Char.ofNat 101), (Char.ofNat 115), (Char.ofNat 115), (Char.ofNat 32), (Char.ofNat 49), (Char.ofNat 102), (Char.ofNat 53), (Char.ofNat 100), (Char.ofNat 57), (Char.ofNat 101), (Char.ofNat 50), (Char.ofNat 57), (Char.ofNat 102), (Char.ofNat 53), (Char.ofNat 98), (Char.ofNat 97), (Char.ofNat 50), (Char.ofNat 52), (Char.ofNat 49), (Char.ofNat 97), (Char.ofNat 53), (Char.ofNat 57), (Char.ofNat 48), (Char.ofNat 50), (Char.ofNat 98), (Char.ofNat 57), (Char.ofNat 48), (Char.ofNat 48), (Char.ofNat 102), (Char.ofNat 100), (Char.ofNat 53), (Char.ofNat 55), (Char.ofNat 57), (Char.ofNat 55), (Char.ofNat 50), (Char.ofNat 49), (Char.ofNat 50), (Char.ofNat 98), (Char.ofNat 51), (Char.ofNat 50), (Char.ofNat 49), (Char.ofNat 56), (Char.ofNat 52), (Char.ofNat 52), (Char.ofNat 100), (Char.ofNat 51), (Char.ofNat 97), (Char.ofNat 50), (Char.ofNat 55), (Char.ofNat 56), (Char.ofNat 97), (Char.ofNat 102), (Char.ofNat 101), (Char.ofNat 99), (Char.ofNat 48), (Char.ofNat 100), (Char.ofNat 52), (Char.ofNat 54), (Char.ofNat 49), (Char.ofNat 53), (Char.ofNat 99), (Char.ofNat 102), (Char.ofNat 49), (Char.ofNat 102), (Char.ofNat 49), (Char.ofNat 55), (Char.ofNat 52), (Char.ofNat 55), (Char.ofNat 32), (Char.ofNat 99), (Char.ofNat 117), (Char.ofNat 116), (Char.ofNat 32), (Char.ofNat 97), (Char.ofNat 116), (Char.ofNat 32), (Char.ofNat 108), (Char.ofNat 111), (Char.ofNat 111), (Char.ofNat 112), (Char.ofNat 46), (Char.ofNat 101), (Char.ofNat 120), (Char.ofNat 97), (Char.ofNat 109), (Char.ofNat 112), (Char.ofNat 108), (Char.ofNat 101), (Char.ofNat 47), (Char.ofNat 115), (Char.ofNat 48), (Char.ofNat 50), (Char.ofNat 56), (Char.ofNat 56), (Char.ofNat 49), (Char.ofNat 47), (Char.ofNat 108), (Char.ofNat 97), (Char.ofNat 119), (Char.ofNat 115), (Char.ofNat 46), (Char.ofNat 70), (Char.ofNat 110), (Char.ofNat 83), (Char.ofNat 112), (Char.ofNat 97), (Char.ofNat 99), (Char.ofNat 101)]
theorem order : Tryz.pinned.checked.prog.initOrder = String.ofList signs := by kernel_rfl
theorem chars : Tryz.pinned.checked.prog.initOrder.toList = signs := by rw [order]; exact String.toList_ofList
def words : List (List Char) := [[(Char.ofNat 99), (Char.ofNat 117), (Char.ofNat 116)], [(Char.ofNat 97), (Char.ofNat 116)], [(Char.ofNat 108), (Char.ofNat 111), (Char.ofNat 111), (Char.ofNat 112), (Char.ofNat 46), (Char.ofNat 101), (Char.ofNat 120), (Char.ofNat 97), (Char.ofNat 109), (Char.ofNat 112), (Char.ofNat 108), (Char.ofNat 101), (Char.ofNat 47), (Char.ofNat 115), (Char.ofNat 48), (Char.ofNat 50), (Char.ofNat 56), (Char.ofNat 56), (Char.ofNat 49), (Char.ofNat 47), (Char.ofNat 108), (Char.ofNat 97), (Char.ofNat 119), (Char.ofNat 115), (Char.ofNat 46), (Char.ofNat 70), (Char.ofNat 110), (Char.ofNat 83), (Char.ofNat 112), (Char.ofNat 97), (Char.ofNat 99), (Char.ofNat 101)]]
theorem split : behindMainWord (wordsSigns signs) = words := by kernel_rfl
theorem make_of {P : Program} {r : List (List Char)} (h : behindMainWord (wordsSigns P.initOrder.toList) = [(Char.ofNat 99), (Char.ofNat 117), (Char.ofNat 116)] :: r) : P.make = some .cut := by
  unfold Program.make
  rw [h]
  rfl
theorem lifts_of {P : Program} {l : List (List Char)} (h : behindMainWord (wordsSigns P.initOrder.toList) = l) (h1 : (stripLifts liftWords l).1.contains "finals" = false) (h2 : (l.head? == some "carried".toList) = false) : P.liftsFinal = false := by
  unfold Program.liftsFinal Program.headLifts
  rw [h]
  simp only [h2, Bool.false_and, Bool.false_or]
  split
  · exact h1
  · rfl
theorem mayEnter_of {P : Program} {c : List Char} {r : List (List Char)} (h : behindMainWord (wordsSigns P.initOrder.toList) = c :: r) (h1 : (stripLifts liftWords (c :: r)).2.head? == some "cut".toList) (h2 : P.laysLater = false) (h3 : P.bearsReflect = false)
    (h4 : (stripLifts liftWords (c :: r)).1 = []) (h5 : P.doorFits [] = true) : P.mayEnter = true := by
  unfold Program.mayEnter
  rw [h]
  simp only [h1, h2, h3, h4, h5]
  simp
theorem ai {a b : Bool} (ha : a = true) (hb : b = true) : (a && b) = true := by rw [ha, hb]; rfl
theorem laid : laidOutB Tryz.pinned.checked.prog = true := by kernel_rfl
theorem rowed : mapsRowed Tryz.pinned.checked.prog = true := by kernel_rfl
theorem heard : Tryz.pinned.checked.prog.stopsHeard = true := by kernel_rfl
theorem plain : Tryz.pinned.checked.prog.plainKeys = false := by kernel_rfl
theorem here : behindMainWord (wordsSigns Tryz.pinned.checked.prog.initOrder.toList) = words := by rw [chars]; exact split
theorem mayEnter : Tryz.pinned.checked.prog.mayEnter = true := mayEnter_of here (by kernel_rfl) (by kernel_rfl) (by kernel_rfl) (by kernel_rfl) (by kernel_rfl)
theorem lifts : Tryz.pinned.checked.prog.liftsFinal = false := lifts_of here (by kernel_rfl) (by kernel_rfl)
theorem make : Tryz.pinned.checked.prog.make = some .cut := make_of here
end Go.Proofs.YtanfhikfeabidaaGreatDoor.Head
