/-
  CONTRACTS 43: DiskBarrier, DiskCrash; THE LAW'S WALK: DiskBarrier. No condition.
-/
import Derived.Test.Ytgpcanjmgdmdhaa42
namespace Go.Proofs.Ytgpcanjmgdmdhaa
open Go Go.Eng
set_option maxRecDepth 100000
set_option maxHeartbeats 4000000
set_option linter.unusedVariables false
set_option linter.unusedSimpArgs false
theorem crA_rep {n i : Nat} (h : i < n) : crA (List.replicate n 64) i = 64 := by unfold crA; rw [dif_pos (by simpa using h)]; simp
theorem crA_map {n i : Nat} {f : Nat → Int} (h : i < n) : crA ((List.range n).map f) i = f i := by unfold crA; rw [dif_pos (by simpa using h)]; simp
theorem impl_DiskBarrier {w : World} {F G : List Nat} {v u : Value} {xs : List Int} {ps : List Wr} (hx : u8.R w F v xs) (hp : kW.R w G u ps) (lx : xs.length ≤ 1000000000) (hlp : ps.length ≤ 2000000) (lxx : ∀ x, x ∈ ps → x.2.length ≤ 1000000000) : Ret Try.prog 85 #[.agg #[v, u]] w (fun r w' => ∃ a c, r = .agg #[a, c] ∧ Hold w [] w' [rR u8 5 a (dbD xs ps).1, rR kW 112 c (dbD xs ps).2]) := by
  refine enter Try.func85 rfl Try.ntmps85 (by rfl) (by rfl) ?_
  have H0 : Hold w [] w [] := Hold.start w
  refine sq (rg (ef (xbx (t := 49) rfl rfl) ?_))
  rintro _ w1 ⟨g1, e1, rfl, -, b1, c1⟩
  have H1 : Hold w [] w1 [rB g1 49 ([v, u])] := Hold.newB H0 e1 b1 c1
  clear H0
  clear e1 b1 c1
  refine ef (xal ti49) ?_
  rintro _ w2 ⟨g2, e2, rfl, -, b2, c2⟩
  have H2 : Hold w [] w2 [rB g1 49 ([v, u]), rB g2 49 ([.slice none 0 0, .slice none 0 0])] := Hold.newB H1 e2 b2 c2
  clear H1
  clear e2 b2 c2
  have b3 : B w2 g1 49 ([v, u]) := Hold.blk H2 0 rfl
  refine re (sq (sq (rg (r (lab [v, u] Try.underlying49 rfl ti49 rfl b3 rfl rfl) (cl go59 (impl_ValidDisk (hx.t (Hold.ch H2)) (hp.t (Hold.ch H2)) lx (by omega) lxx) (ac rfl an) ?_)))))
  rintro r wv ⟨rfl, cv⟩
  have H3 : Hold w [] wv [rB g1 49 ([v, u]), rB g2 49 ([.slice none 0 0, .slice none 0 0])] := Hold.t H2 cv
  clear H2
  clear cv
  refine r (nt rfl) (re ?_)
  refine cd rfl (fun h1 => ?_) (fun h1 => ?_)
  · rw [dbD_no (fun e => by simp [e] at h1)]
    have H4 : Hold w [] wv [rB g1 49 ([v, u]), rB g2 49 ([.slice none 0 0, .slice none 0 0]), rR u8 5 (.slice none 0 0) ([])] := Hold.nilrow u8 5 H3
    clear H3
    have H5 : Hold w [] wv [rB g1 49 ([v, u]), rB g2 49 ([.slice none 0 0, .slice none 0 0]), rR u8 5 (.slice none 0 0) ([]), rR kW 112 (.slice none 0 0) ([])] := Hold.nilrow kW 112 H4
    clear H4
    have b5 : B wv g2 49 ([.slice none 0 0, .slice none 0 0]) := Hold.blk H5 1 rfl
    obtain ⟨_, R7⟩ : ∃ F, Kd.R u8 wv F (.slice none 0 0) ([]) := Hold.row H5 2 rfl
    refine sq (rg (r (bd (r := [.slice none 0 0, .slice none 0 0]) ti49 pl49 pn rfl) (ef0 (xst (vs := [.slice none 0 0, .slice none 0 0]) ti49 rfl rfl rfl b5 rfl (Nat.le_of_ble_eq_true rfl) (oc (R7).oneCell (oc (R7).oneCell on))) ?_)))
    rintro w6 ⟨-, b6, c6⟩
    have H6 : Hold w [] w6 [rB g1 49 ([v, u]), rB g2 49 ([.slice none 0 0, .slice none 0 0]), rR u8 5 (.slice none 0 0) ([]), rR kW 112 (.slice none 0 0) ([])] := Hold.setB H5 1 rfl b6 c6 rfl
    clear H5
    clear b6 c6
    refine re (rt ?_)
    have b8 : B w6 g2 49 ([.slice none 0 0, .slice none 0 0]) := Hold.blk H6 1 rfl
    have H7 : Hold w [] w6 [rR u8 5 (.slice none 0 0) ([]), rR kW 112 (.slice none 0 0) ([])] := (show Hold w [] w6 ([rR u8 5 (.slice none 0 0) ([]), rR kW 112 (.slice none 0 0) ([])] ++ [rB g1 49 ([v, u]), rB g2 49 ([.slice none 0 0, .slice none 0 0])]) from Hold.re H6 [2, 3, 0, 1] (by kernel_rfl) (by rfl)).drop
    clear H6
    exact finc  (cs := [.slice none 0 0, .slice none 0 0]) Try.results85 Try.underlying49 rfl ti49 rfl b8 rfl  ⟨_, _, rfl, H7⟩
  · have hv : vdisk xs ps = true := by simpa using h1
    rw [dbD_yes hv]
    have V := VD.of hv
    have hlx := V.len2
    have b5 : B wv g1 49 ([v, u]) := Hold.blk H3 0 rfl
    refine sk (sq (rg (r (lab [v, u] Try.underlying49 rfl ti49 rfl b5 rfl rfl) (cl go131 (spin (hx.t (Hold.ch H3)) (hp.t (Hold.ch H3)) lx hlp lxx) (ac rfl an) ?_))))
    rintro r ws ⟨g, dv, wv, mg, rfl, Hs1⟩
    have H4 : Hold w [] ws [rB g1 49 ([v, u]), rB g2 49 ([.slice none 0 0, .slice none 0 0]), rB g 183 ([dv, wv, .map (some mg)]), rR u8 5 dv xs, rR kW 112 wv ps, rM mg (yng ps)] := Hold.news H3 Hs1
    clear H3
    clear Hs1
    have H5 : Hold w [] ws [rB g 183 ([dv, wv, .map (some mg)]), rR u8 5 dv xs, rR kW 112 wv ps, rM mg (yng ps), rB g1 49 ([v, u]), rB g2 49 ([.slice none 0 0, .slice none 0 0])] := Hold.re H4 [2, 3, 4, 5, 0, 1] (by kernel_rfl) (by rfl)
    clear H4
    obtain ⟨F7, hF7, n7, s7, K7⟩ := Hold.front (Γ := [rB g 183 ([dv, wv, .map (some mg)]), rR u8 5 dv xs, rR kW 112 wv ps, rM mg (yng ps)]) (Δ := [rB g1 49 ([v, u]), rB g2 49 ([.slice none 0 0, .slice none 0 0])]) H5
    refine r (sa rfl) (re (sq (rg (r (mv rfl) (cl go135 (platter_barrier hF7 n7 V) (ac rfl an) ?_)))))
    rintro _ wb Hb
    have H6 : Hold w [] wb [rB g 183 ([dv, .slice none 0 0, .map (some mg)]), rR u8 5 dv (stN xs ps (fun _ => 64) ps.length), rR kW 112 (.slice none 0 0) ([]), rM mg (yng ([])), rB g1 49 ([v, u]), rB g2 49 ([.slice none 0 0, .slice none 0 0])] := Hold.call K7 Hb
    clear H5
    clear K7 hF7 n7 s7
    clear Hb
    refine re (sq ?_)
    refine gen (fun ρ => ρ 2 = .pointer (some ⟨g2, 0, none⟩) ∧ ρ 3 = .pointer (some ⟨g, 0, none⟩) ∧ True) ⟨rfl, rfl, trivial⟩ ?_
    rintro ρ ⟨z2, z3, -⟩
    have b9 : B wb g 183 ([dv, .slice none 0 0, .map (some mg)]) := Hold.blk H6 0 rfl
    obtain ⟨_, R10⟩ : ∃ F, Kd.R u8 wb F dv (stN xs ps (fun _ => 64) ps.length) := Hold.row H6 1 rfl
    obtain ⟨_, R11⟩ : ∃ F, Kd.R kW wb F (.slice none 0 0) ([]) := Hold.row H6 2 rfl
    refine rg (r (mv z3) (cl go136 (platter_disk b9 R10 R11 (by rw [stN_len V]; omega) (by simp) (by simp)) (ac rfl an) ?_))
    rintro r wd ⟨a, c, rfl, Hd⟩
    have H7 : Hold w [] wd [rB g 183 ([dv, .slice none 0 0, .map (some mg)]), rR u8 5 dv (stN xs ps (fun _ => 64) ps.length), rR kW 112 (.slice none 0 0) ([]), rM mg (yng ([])), rB g1 49 ([v, u]), rB g2 49 ([.slice none 0 0, .slice none 0 0]), rR u8 5 a (stN xs ps (fun _ => 64) ps.length), rR kW 112 c ([] : List Wr)] := Hold.news H6 Hd
    clear H6
    clear Hd
    have b12 : B wd g2 49 ([.slice none 0 0, .slice none 0 0]) := Hold.blk H7 5 rfl
    obtain ⟨_, R14⟩ : ∃ F, Kd.R kW wd F c ([] : List Wr) := Hold.row H7 7 rfl
    obtain ⟨_, R15⟩ : ∃ F, Kd.R u8 wd F a (stN xs ps (fun _ => 64) ps.length) := Hold.row H7 6 rfl
    refine ef0 (xst (vs := [a, c]) ti49 z2 rfl rfl b12 rfl (Nat.le_of_ble_eq_true rfl) (oc (R15).oneCell (oc (R14).oneCell on))) ?_
    rintro w13 ⟨-, b13, c13⟩
    have H8 : Hold w [] w13 [rB g 183 ([dv, .slice none 0 0, .map (some mg)]), rR u8 5 dv (stN xs ps (fun _ => 64) ps.length), rR kW 112 (.slice none 0 0) ([]), rM mg (yng ([])), rB g1 49 ([v, u]), rB g2 49 ([a, c]), rR u8 5 a (stN xs ps (fun _ => 64) ps.length), rR kW 112 c ([] : List Wr)] := Hold.setB H7 5 rfl b13 c13 rfl
    clear H7
    clear b13 c13
    refine re (rt ?_)
    have b16 : B w13 g2 49 ([a, c]) := Hold.blk H8 5 rfl
    have H9 : Hold w [] w13 [rR u8 5 a (stN xs ps (fun _ => 64) ps.length), rR kW 112 c ([] : List Wr)] := (show Hold w [] w13 ([rR u8 5 a (stN xs ps (fun _ => 64) ps.length), rR kW 112 c ([] : List Wr)] ++ [rB g 183 ([dv, .slice none 0 0, .map (some mg)]), rR u8 5 dv (stN xs ps (fun _ => 64) ps.length), rR kW 112 (.slice none 0 0) ([]), rM mg (yng ([])), rB g1 49 ([v, u]), rB g2 49 ([a, c])]) from Hold.re H8 [6, 7, 0, 1, 2, 3, 4, 5] (by kernel_rfl) (by rfl)).drop
    clear H8
    exact finc  (cs := [a, c]) Try.results85 Try.underlying49 rfl ti49 z2 b16 rfl  ⟨_, _, rfl, H9⟩
theorem spec_DiskBarrier {w : World} {F G : List Nat} {v u : Value} {xs : List Int} {ps : List Wr} (hx : u8.R w F v xs) (hp : kW.R w G u ps) (lx : xs.length ≤ 1000000000) (hlp : ps.length ≤ 2000000) (lxx : ∀ x, x ∈ ps → x.2.length ≤ 1000000000) : Ret Try.prog 84 #[.agg #[v, u]] w (fun r w' => ∃ a c, r = .agg #[a, c] ∧ Hold w [] w' [rR u8 5 a (dbD xs ps).1, rR kW 112 c (dbD xs ps).2]) := by
  refine enter Try.func84 rfl Try.ntmps84 (by rfl) (by rfl) ?_
  have H0 : Hold w [] w [] := Hold.start w
  refine sq (rg (ef (xbx (t := 49) rfl rfl) ?_))
  rintro _ w1 ⟨g1, e1, rfl, -, b1, c1⟩
  have H1 : Hold w [] w1 [rB g1 49 ([v, u])] := Hold.newB H0 e1 b1 c1
  clear H0
  clear e1 b1 c1
  refine ef (xal ti49) ?_
  rintro _ w2 ⟨g2, e2, rfl, -, b2, c2⟩
  have H2 : Hold w [] w2 [rB g1 49 ([v, u]), rB g2 49 ([.slice none 0 0, .slice none 0 0])] := Hold.newB H1 e2 b2 c2
  clear H1
  clear e2 b2 c2
  have b3 : B w2 g1 49 ([v, u]) := Hold.blk H2 0 rfl
  refine re (sq (sq (rg (r (lab [v, u] Try.underlying49 rfl ti49 rfl b3 rfl rfl) (cl go57 (spec_ValidDisk (hx.t (Hold.ch H2)) (hp.t (Hold.ch H2)) lx (by omega) lxx) (ac rfl an) ?_)))))
  rintro r wv ⟨rfl, cv⟩
  have H3 : Hold w [] wv [rB g1 49 ([v, u]), rB g2 49 ([.slice none 0 0, .slice none 0 0])] := Hold.t H2 cv
  clear H2
  clear cv
  refine r (nt rfl) (re ?_)
  refine cd rfl (fun h1 => ?_) (fun h1 => ?_)
  · rw [dbD_no (fun e => by simp [e] at h1)]
    have H4 : Hold w [] wv [rB g1 49 ([v, u]), rB g2 49 ([.slice none 0 0, .slice none 0 0]), rR u8 5 (.slice none 0 0) ([])] := Hold.nilrow u8 5 H3
    clear H3
    have H5 : Hold w [] wv [rB g1 49 ([v, u]), rB g2 49 ([.slice none 0 0, .slice none 0 0]), rR u8 5 (.slice none 0 0) ([]), rR kW 112 (.slice none 0 0) ([])] := Hold.nilrow kW 112 H4
    clear H4
    have b5 : B wv g2 49 ([.slice none 0 0, .slice none 0 0]) := Hold.blk H5 1 rfl
    obtain ⟨_, R7⟩ : ∃ F, Kd.R u8 wv F (.slice none 0 0) ([]) := Hold.row H5 2 rfl
    refine sq (rg (r (bd (r := [.slice none 0 0, .slice none 0 0]) ti49 pl49 pn rfl) (ef0 (xst (vs := [.slice none 0 0, .slice none 0 0]) ti49 rfl rfl rfl b5 rfl (Nat.le_of_ble_eq_true rfl) (oc (R7).oneCell (oc (R7).oneCell on))) ?_)))
    rintro w6 ⟨-, b6, c6⟩
    have H6 : Hold w [] w6 [rB g1 49 ([v, u]), rB g2 49 ([.slice none 0 0, .slice none 0 0]), rR u8 5 (.slice none 0 0) ([]), rR kW 112 (.slice none 0 0) ([])] := Hold.setB H5 1 rfl b6 c6 rfl
    clear H5
    clear b6 c6
    refine re (rt ?_)
    have b8 : B w6 g2 49 ([.slice none 0 0, .slice none 0 0]) := Hold.blk H6 1 rfl
    have H7 : Hold w [] w6 [rR u8 5 (.slice none 0 0) ([]), rR kW 112 (.slice none 0 0) ([])] := (show Hold w [] w6 ([rR u8 5 (.slice none 0 0) ([]), rR kW 112 (.slice none 0 0) ([])] ++ [rB g1 49 ([v, u]), rB g2 49 ([.slice none 0 0, .slice none 0 0])]) from Hold.re H6 [2, 3, 0, 1] (by kernel_rfl) (by rfl)).drop
    clear H6
    exact finc  (cs := [.slice none 0 0, .slice none 0 0]) Try.results84 Try.underlying49 rfl ti49 rfl b8 rfl  ⟨_, _, rfl, H7⟩
  · have hv : vdisk xs ps = true := by simpa using h1
    rw [dbD_yes hv]
    have V := VD.of hv
    have hnp := V.num
    refine sk (sq (rg (ef (xbs0 (dk := i64) Try.underlying22 ti2) ?_)))
    rintro v5 w5 N5
    have H4 : Hold w [] w5 [rB g1 49 ([v, u]), rB g2 49 ([.slice none 0 0, .slice none 0 0]), rR i64 2 v5 ([])] := Hold.newr H3 N5
    clear H3
    refine r (sa rfl) (re (sq (sq (rg (r (sa rfl) (re (bl ?_)))))))
    refine lp (α := Nat × Value) (fun (k, o) ρ w' => ρ 1 = .pointer (some ⟨g1, 0, none⟩) ∧ ρ 2 = .pointer (some ⟨g2, 0, none⟩) ∧ ρ 4 = .int .i64 (k : Int) ∧ ρ 3 = o ∧ Hold w [] w' [rB g1 49 ([v, u]), rB g2 49 ([.slice none 0 0, .slice none 0 0]), rR i64 2 o (List.replicate k 64)] ∧ k ≤ ps.length) (fun (k, o) => ps.length - k) (0, v5) ?_ ?_
    · exact ⟨rfl, rfl, rfl, rfl, H4, by omega⟩
    clear H4
    rintro ⟨k, o⟩ ρ w505 ⟨y1, y2, y4, y3, H5, hk⟩
    have b6 : B w505 g1 49 ([v, u]) := Hold.blk H5 0 rfl
    refine sq (sq (rg (r (mv y4) (r (fa Try.underlying49 rfl ti47 rfl y1) (r (ldb Try.underlying47 rfl rfl b6 rfl) (r (ln Try.underlying47 rfl ((hp.t (Hold.ch H5)))) (r (bi rfl rfl rfl) (re ?_))))))))
    refine cp rfl (fun h => ?_) (fun h => ?_)
    · have hk' : k < ps.length := by omega
      refine sk (sq (bl (rg (r (mv y3) (ef (xbs1 (cs := [.int .i64 64]) Try.underlying22 ti2 rfl rfl rfl (cel1 rfl) rfl) ?_)))))
      rintro _ w7 ⟨g18, e7, rfl, -, b7, c7⟩
      have H6 : Hold w [] w7 [rB g1 49 ([v, u]), rB g2 49 ([.slice none 0 0, .slice none 0 0]), rR i64 2 o (List.replicate k 64), rB g18 2 ([.int .i64 64])] := Hold.newB H5 e7 b7 c7
      clear H5
      clear e7 b7 c7
      have b9 : B w7 g18 2 ([.int .i64 64]) := Hold.blk H6 3 rfl
      obtain ⟨F10, P10, n10, s10, K10⟩ := Hold.pick H6 2 rfl
      replace P10 : Kd.W i64 2 w7 F10 o (List.replicate k 64) := P10
      refine ef (xapb (ys := [64]) Try.underlying22 ti2 rfl rfl rfl P10 b9 (els_one (R := Kd.O i64 _) (show Kd.O i64 _ [] 64 _ from ⟨rfl, rfl⟩)) (nodup_nil n10) (by simp; omega)) ?_
      rintro v19_8 w8 ⟨F8, A8⟩
      have H7 : Hold w [] w8 [rB g1 49 ([v, u]), rB g2 49 ([.slice none 0 0, .slice none 0 0]), rR i64 2 v19_8 ((List.replicate k 64) ++ [64]), rB g18 2 ([.int .i64 64])] := Hold.apd K10 P10 A8 rfl
      clear H6
      clear A8 K10 P10 n10 s10
      refine r (sa rfl) (re (be (rg (r (mv y4) (r (ad (a := (k : Int)) (b := 1) ((k : Int) + 1) rfl rfl (by omega)) (r (sa rfl) (re ?_)))))))
      have H8 : Hold w [] w8 [rB g1 49 ([v, u]), rB g2 49 ([.slice none 0 0, .slice none 0 0]), rR i64 2 v19_8 ((List.replicate k 64) ++ [64])] := (show Hold w [] w8 ([rB g1 49 ([v, u]), rB g2 49 ([.slice none 0 0, .slice none 0 0]), rR i64 2 v19_8 ((List.replicate k 64) ++ [64])] ++ [rB g18 2 ([.int .i64 64])]) from Hold.re H7 [0, 1, 2, 3] (by kernel_rfl) (by rfl)).drop
      clear H7
      exact ag (k + 1, v19_8) ⟨y1, y2, rfl, rfl, (by rw [List.replicate_succ']; exact H8), by omega⟩ (by first | omega | (dsimp only; omega))
    · obtain rfl : k = ps.length := by omega
      have eS := stN_congr (xs := xs) (ps := ps) (f := cutF (List.replicate ps.length 64)) (g := fun _ => 64) (fun k hk => by rw [cutF, crA_rep hk]; rfl) ps.length (Nat.le_refl _)
      obtain ⟨_, R8⟩ : ∃ F, Kd.R i64 w505 F o (List.replicate ps.length 64) := Hold.row H5 2 rfl
      refine ex rfl (sq (rg (r (lab [v, u] Try.underlying49 rfl ti49 y1 b6 rfl rfl) (r (mv y3) (cl go138 ((by have h9 := l1Settle (hx.t (Hold.ch H5)) (hp.t (Hold.ch H5)) R8 V (by simp) (fun i hi => by rw [crA_rep hi]; omega); rw [eS] at h9; exact h9)) (ac rfl (ac rfl an)) ?_)))))
      rintro r wd ⟨a, c, rfl, Hd⟩
      have H6 : Hold w [] wd [rB g1 49 ([v, u]), rB g2 49 ([.slice none 0 0, .slice none 0 0]), rR i64 2 o (List.replicate ps.length 64), rR u8 5 a (stN xs ps (fun _ => 64) ps.length), rR kW 112 c ([] : List Wr)] := Hold.news H5 Hd
      clear H5
      clear Hd
      have b9 : B wd g2 49 ([.slice none 0 0, .slice none 0 0]) := Hold.blk H6 1 rfl
      obtain ⟨_, R11⟩ : ∃ F, Kd.R kW wd F c ([] : List Wr) := Hold.row H6 4 rfl
      obtain ⟨_, R12⟩ : ∃ F, Kd.R u8 wd F a (stN xs ps (fun _ => 64) ps.length) := Hold.row H6 3 rfl
      refine ef0 (xst (vs := [a, c]) ti49 y2 rfl rfl b9 rfl (Nat.le_of_ble_eq_true rfl) (oc (R12).oneCell (oc (R11).oneCell on))) ?_
      rintro w10 ⟨-, b10, c10⟩
      have H7 : Hold w [] w10 [rB g1 49 ([v, u]), rB g2 49 ([a, c]), rR i64 2 o (List.replicate ps.length 64), rR u8 5 a (stN xs ps (fun _ => 64) ps.length), rR kW 112 c ([] : List Wr)] := Hold.setB H6 1 rfl b10 c10 rfl
      clear H6
      clear b10 c10
      refine re (rt ?_)
      have b13 : B w10 g2 49 ([a, c]) := Hold.blk H7 1 rfl
      have H8 : Hold w [] w10 [rR u8 5 a (stN xs ps (fun _ => 64) ps.length), rR kW 112 c ([] : List Wr)] := (show Hold w [] w10 ([rR u8 5 a (stN xs ps (fun _ => 64) ps.length), rR kW 112 c ([] : List Wr)] ++ [rB g1 49 ([v, u]), rB g2 49 ([a, c]), rR i64 2 o (List.replicate ps.length 64)]) from Hold.re H7 [3, 4, 0, 1, 2] (by kernel_rfl) (by rfl)).drop
      clear H7
      exact finc  (cs := [a, c]) Try.results84 Try.underlying49 rfl ti49 y2 b13 rfl  ⟨_, _, rfl, H8⟩
theorem impl_DiskCrash {w : World} {F G : List Nat} {F2 : List Nat} {v u cv : Value} {xs cs : List Int} {ps : List Wr} (hx : u8.R w F v xs) (hp : kW.R w G u ps) (lx : xs.length ≤ 1000000000) (hlp : ps.length ≤ 2000000) (lxx : ∀ x, x ∈ ps → x.2.length ≤ 1000000000) (hc : i64.R w F2 cv cs) (lz : cs.length ≤ 1000000000) : Ret Try.prog 87 #[.agg #[v, u], cv] w (fun r w' => ∃ a c, r = .agg #[a, c] ∧ Hold w [] w' [rR u8 5 a (dcD xs ps cs).1, rR kW 112 c (dcD xs ps cs).2]) := by
  refine enter Try.func87 rfl Try.ntmps87 (by rfl) (by rfl) ?_
  have H0 : Hold w [] w [] := Hold.start w
  refine sq (rg (ef (xbx (t := 49) rfl rfl) ?_))
  rintro _ w1 ⟨g2, e1, rfl, -, b1, c1⟩
  have H1 : Hold w [] w1 [rB g2 49 ([v, u])] := Hold.newB H0 e1 b1 c1
  clear H0
  clear e1 b1 c1
  refine ef (xal ti49) ?_
  rintro _ w2 ⟨g4, e2, rfl, -, b2, c2⟩
  have H2 : Hold w [] w2 [rB g2 49 ([v, u]), rB g4 49 ([.slice none 0 0, .slice none 0 0])] := Hold.newB H1 e2 b2 c2
  clear H1
  clear e2 b2 c2
  have b3 : B w2 g2 49 ([v, u]) := Hold.blk H2 0 rfl
  refine re (sq (sq (rg (r (lab [v, u] Try.underlying49 rfl ti49 rfl b3 rfl rfl) (cl go59 (impl_ValidDisk (hx.t (Hold.ch H2)) (hp.t (Hold.ch H2)) lx (by omega) lxx) (ac rfl an) ?_)))))
  rintro r wv ⟨rfl, cv⟩
  have H3 : Hold w [] wv [rB g2 49 ([v, u]), rB g4 49 ([.slice none 0 0, .slice none 0 0])] := Hold.t H2 cv
  clear H2
  clear cv
  refine r (nt rfl) (r (mv rfl) ?_)
  refine spb 9 rfl (fun h1 => ?_) (fun h1 => ?_)
  · rw [dcD_no (fun e => by simp [e.1] at h1)]
    have H4 : Hold w [] wv [rB g2 49 ([v, u]), rB g4 49 ([.slice none 0 0, .slice none 0 0]), rR u8 5 (.slice none 0 0) ([])] := Hold.nilrow u8 5 H3
    clear H3
    have H5 : Hold w [] wv [rB g2 49 ([v, u]), rB g4 49 ([.slice none 0 0, .slice none 0 0]), rR u8 5 (.slice none 0 0) ([]), rR kW 112 (.slice none 0 0) ([])] := Hold.nilrow kW 112 H4
    clear H4
    refine gn rfl rfl rfl (gn rfl rfl rfl (gn rfl rfl rfl (r (pk rfl rfl) (re (ct rfl (sq ?_))))))
    refine gen (fun ρ => ρ 1 = cv ∧ ρ 2 = .pointer (some ⟨g2, 0, none⟩) ∧ ρ 4 = .pointer (some ⟨g4, 0, none⟩) ∧ True) ⟨rfl, rfl, rfl, trivial⟩ ?_
    rintro ρ ⟨z1, z2, z4, -⟩
    have b5 : B wv g4 49 ([.slice none 0 0, .slice none 0 0]) := Hold.blk H5 1 rfl
    obtain ⟨_, R7⟩ : ∃ F, Kd.R u8 wv F (.slice none 0 0) ([]) := Hold.row H5 2 rfl
    refine rg (r (bd (r := [.slice none 0 0, .slice none 0 0]) ti49 pl49 pn rfl) (ef0 (xst (vs := [.slice none 0 0, .slice none 0 0]) ti49 z4 rfl rfl b5 rfl (Nat.le_of_ble_eq_true rfl) (oc (R7).oneCell (oc (R7).oneCell on))) ?_))
    rintro w6 ⟨-, b6, c6⟩
    have H6 : Hold w [] w6 [rB g2 49 ([v, u]), rB g4 49 ([.slice none 0 0, .slice none 0 0]), rR u8 5 (.slice none 0 0) ([]), rR kW 112 (.slice none 0 0) ([])] := Hold.setB H5 1 rfl b6 c6 rfl
    clear H5
    clear b6 c6
    refine re (rt ?_)
    have b8 : B w6 g4 49 ([.slice none 0 0, .slice none 0 0]) := Hold.blk H6 1 rfl
    have H7 : Hold w [] w6 [rR u8 5 (.slice none 0 0) ([]), rR kW 112 (.slice none 0 0) ([])] := (show Hold w [] w6 ([rR u8 5 (.slice none 0 0) ([]), rR kW 112 (.slice none 0 0) ([])] ++ [rB g2 49 ([v, u]), rB g4 49 ([.slice none 0 0, .slice none 0 0])]) from Hold.re H6 [2, 3, 0, 1] (by kernel_rfl) (by rfl)).drop
    clear H6
    exact finc  (cs := [.slice none 0 0, .slice none 0 0]) Try.results87 Try.underlying49 rfl ti49 z4 b8 rfl  ⟨_, _, rfl, H7⟩
  · refine gy rfl rfl rfl (r (mv rfl) (gy rfl rfl rfl (r (ln Try.underlying22 rfl ((hc.t (Hold.ch H3)))) (gy rfl rfl rfl (r (bi rfl rfl rfl) (r (pk rfl rfl) (re ?_)))))))
    refine cp rfl (fun h2 => ?_) (fun h2 => ?_)
    · rw [dcD_no (fun e => by have := e.2; omega)]
      have H4 : Hold w [] wv [rB g2 49 ([v, u]), rB g4 49 ([.slice none 0 0, .slice none 0 0]), rR u8 5 (.slice none 0 0) ([])] := Hold.nilrow u8 5 H3
      clear H3
      have H5 : Hold w [] wv [rB g2 49 ([v, u]), rB g4 49 ([.slice none 0 0, .slice none 0 0]), rR u8 5 (.slice none 0 0) ([]), rR kW 112 (.slice none 0 0) ([])] := Hold.nilrow kW 112 H4
      clear H4
      refine sq ?_
      refine gen (fun ρ => ρ 1 = cv ∧ ρ 2 = .pointer (some ⟨g2, 0, none⟩) ∧ ρ 4 = .pointer (some ⟨g4, 0, none⟩) ∧ True) ⟨rfl, rfl, rfl, trivial⟩ ?_
      rintro ρ ⟨z1, z2, z4, -⟩
      have b5 : B wv g4 49 ([.slice none 0 0, .slice none 0 0]) := Hold.blk H5 1 rfl
      obtain ⟨_, R7⟩ : ∃ F, Kd.R u8 wv F (.slice none 0 0) ([]) := Hold.row H5 2 rfl
      refine rg (r (bd (r := [.slice none 0 0, .slice none 0 0]) ti49 pl49 pn rfl) (ef0 (xst (vs := [.slice none 0 0, .slice none 0 0]) ti49 z4 rfl rfl b5 rfl (Nat.le_of_ble_eq_true rfl) (oc (R7).oneCell (oc (R7).oneCell on))) ?_))
      rintro w6 ⟨-, b6, c6⟩
      have H6 : Hold w [] w6 [rB g2 49 ([v, u]), rB g4 49 ([.slice none 0 0, .slice none 0 0]), rR u8 5 (.slice none 0 0) ([]), rR kW 112 (.slice none 0 0) ([])] := Hold.setB H5 1 rfl b6 c6 rfl
      clear H5
      clear b6 c6
      refine re (rt ?_)
      have b8 : B w6 g4 49 ([.slice none 0 0, .slice none 0 0]) := Hold.blk H6 1 rfl
      have H7 : Hold w [] w6 [rR u8 5 (.slice none 0 0) ([]), rR kW 112 (.slice none 0 0) ([])] := (show Hold w [] w6 ([rR u8 5 (.slice none 0 0) ([]), rR kW 112 (.slice none 0 0) ([])] ++ [rB g2 49 ([v, u]), rB g4 49 ([.slice none 0 0, .slice none 0 0])]) from Hold.re H6 [2, 3, 0, 1] (by kernel_rfl) (by rfl)).drop
      clear H6
      exact finc  (cs := [.slice none 0 0, .slice none 0 0]) Try.results87 Try.underlying49 rfl ti49 z4 b8 rfl  ⟨_, _, rfl, H7⟩
    · have hv : vdisk xs ps = true := by simpa using h1
      rw [dcD_yes ⟨hv, by omega⟩]
      have V := VD.of hv
      have hlx := V.len2
      refine sk (sq ?_)
      refine gen (fun ρ => ρ 1 = cv ∧ ρ 2 = .pointer (some ⟨g2, 0, none⟩) ∧ ρ 4 = .pointer (some ⟨g4, 0, none⟩) ∧ True) ⟨rfl, rfl, rfl, trivial⟩ ?_
      rintro ρ ⟨z1, z2, z4, -⟩
      have b5 : B wv g2 49 ([v, u]) := Hold.blk H3 0 rfl
      refine rg (r (lab [v, u] Try.underlying49 rfl ti49 z2 b5 rfl rfl) (cl go131 (spin (hx.t (Hold.ch H3)) (hp.t (Hold.ch H3)) lx hlp lxx) (ac rfl an) ?_))
      rintro r ws ⟨g, dv, wv, mg, rfl, Hs1⟩
      have H4 : Hold w [] ws [rB g2 49 ([v, u]), rB g4 49 ([.slice none 0 0, .slice none 0 0]), rB g 183 ([dv, wv, .map (some mg)]), rR u8 5 dv xs, rR kW 112 wv ps, rM mg (yng ps)] := Hold.news H3 Hs1
      clear H3
      clear Hs1
      have H5 : Hold w [] ws [rB g 183 ([dv, wv, .map (some mg)]), rR u8 5 dv xs, rR kW 112 wv ps, rM mg (yng ps), rB g2 49 ([v, u]), rB g4 49 ([.slice none 0 0, .slice none 0 0])] := Hold.re H4 [2, 3, 4, 5, 0, 1] (by kernel_rfl) (by rfl)
      clear H4
      obtain ⟨F7, hF7, n7, s7, K7⟩ := Hold.front (Γ := [rB g 183 ([dv, wv, .map (some mg)]), rR u8 5 dv xs, rR kW 112 wv ps, rM mg (yng ps)]) (Δ := [rB g2 49 ([v, u]), rB g4 49 ([.slice none 0 0, .slice none 0 0])]) H5
      refine r (sa rfl) (re (sq (rg (r (mv rfl) (r (mv z1) (cl go141 (platter_crash hF7 n7 V (hc.t (Hold.ch H5)) (dis_of0 hc.lt s7)) (ac rfl (ac rfl an)) ?_))))))
      rintro _ wb Hb
      have H6 : Hold w [] wb [rB g 183 ([dv, .slice none 0 0, .map (some mg)]), rR u8 5 dv (stN xs ps (fun i => (crI cs i).toNat) ps.length), rR kW 112 (.slice none 0 0) ([]), rM mg (yng ([])), rB g2 49 ([v, u]), rB g4 49 ([.slice none 0 0, .slice none 0 0])] := Hold.call K7 Hb
      clear H5
      clear K7 hF7 n7 s7
      clear Hb
      have b9 : B wb g 183 ([dv, .slice none 0 0, .map (some mg)]) := Hold.blk H6 0 rfl
      obtain ⟨_, R10⟩ : ∃ F, Kd.R u8 wb F dv (stN xs ps (fun i => (crI cs i).toNat) ps.length) := Hold.row H6 1 rfl
      obtain ⟨_, R11⟩ : ∃ F, Kd.R kW wb F (.slice none 0 0) ([]) := Hold.row H6 2 rfl
      refine re (sq (rg (r (mv rfl) (cl go136 (platter_disk b9 R10 R11 (by rw [stN_len V]; omega) (by simp) (by simp)) (ac rfl an) ?_))))
      rintro r wd ⟨a, c, rfl, Hd⟩
      have H7 : Hold w [] wd [rB g 183 ([dv, .slice none 0 0, .map (some mg)]), rR u8 5 dv (stN xs ps (fun i => (crI cs i).toNat) ps.length), rR kW 112 (.slice none 0 0) ([]), rM mg (yng ([])), rB g2 49 ([v, u]), rB g4 49 ([.slice none 0 0, .slice none 0 0]), rR u8 5 a (stN xs ps (fun i => (crI cs i).toNat) ps.length), rR kW 112 c ([] : List Wr)] := Hold.news H6 Hd
      clear H6
      clear Hd
      have b12 : B wd g4 49 ([.slice none 0 0, .slice none 0 0]) := Hold.blk H7 5 rfl
      obtain ⟨_, R14⟩ : ∃ F, Kd.R kW wd F c ([] : List Wr) := Hold.row H7 7 rfl
      obtain ⟨_, R15⟩ : ∃ F, Kd.R u8 wd F a (stN xs ps (fun i => (crI cs i).toNat) ps.length) := Hold.row H7 6 rfl
      refine ef0 (xst (vs := [a, c]) ti49 z4 rfl rfl b12 rfl (Nat.le_of_ble_eq_true rfl) (oc (R15).oneCell (oc (R14).oneCell on))) ?_
      rintro w13 ⟨-, b13, c13⟩
      have H8 : Hold w [] w13 [rB g 183 ([dv, .slice none 0 0, .map (some mg)]), rR u8 5 dv (stN xs ps (fun i => (crI cs i).toNat) ps.length), rR kW 112 (.slice none 0 0) ([]), rM mg (yng ([])), rB g2 49 ([v, u]), rB g4 49 ([a, c]), rR u8 5 a (stN xs ps (fun i => (crI cs i).toNat) ps.length), rR kW 112 c ([] : List Wr)] := Hold.setB H7 5 rfl b13 c13 rfl
      clear H7
      clear b13 c13
      refine re (rt ?_)
      have b16 : B w13 g4 49 ([a, c]) := Hold.blk H8 5 rfl
      have H9 : Hold w [] w13 [rR u8 5 a (stN xs ps (fun i => (crI cs i).toNat) ps.length), rR kW 112 c ([] : List Wr)] := (show Hold w [] w13 ([rR u8 5 a (stN xs ps (fun i => (crI cs i).toNat) ps.length), rR kW 112 c ([] : List Wr)] ++ [rB g 183 ([dv, .slice none 0 0, .map (some mg)]), rR u8 5 dv (stN xs ps (fun i => (crI cs i).toNat) ps.length), rR kW 112 (.slice none 0 0) ([]), rM mg (yng ([])), rB g2 49 ([v, u]), rB g4 49 ([a, c])]) from Hold.re H8 [6, 7, 0, 1, 2, 3, 4, 5] (by kernel_rfl) (by rfl)).drop
      clear H8
      exact finc  (cs := [a, c]) Try.results87 Try.underlying49 rfl ti49 z4 b16 rfl  ⟨_, _, rfl, H9⟩
theorem spec_DiskCrash {w : World} {F G : List Nat} {F2 : List Nat} {v u cv : Value} {xs cs : List Int} {ps : List Wr} (hx : u8.R w F v xs) (hp : kW.R w G u ps) (lx : xs.length ≤ 1000000000) (hlp : ps.length ≤ 2000000) (lxx : ∀ x, x ∈ ps → x.2.length ≤ 1000000000) (hc : i64.R w F2 cv cs) (lz : cs.length ≤ 1000000000) : Ret Try.prog 89 #[.agg #[v, u], cv] w (fun r w' => ∃ a c, r = .agg #[a, c] ∧ Hold w [] w' [rR u8 5 a (dcD xs ps cs).1, rR kW 112 c (dcD xs ps cs).2]) := by
  refine enter Try.func89 rfl Try.ntmps89 (by rfl) (by rfl) ?_
  have H0 : Hold w [] w [] := Hold.start w
  refine sq (rg (ef (xbx (t := 49) rfl rfl) ?_))
  rintro _ w1 ⟨g2, e1, rfl, -, b1, c1⟩
  have H1 : Hold w [] w1 [rB g2 49 ([v, u])] := Hold.newB H0 e1 b1 c1
  clear H0
  clear e1 b1 c1
  refine ef (xal ti49) ?_
  rintro _ w2 ⟨g4, e2, rfl, -, b2, c2⟩
  have H2 : Hold w [] w2 [rB g2 49 ([v, u]), rB g4 49 ([.slice none 0 0, .slice none 0 0])] := Hold.newB H1 e2 b2 c2
  clear H1
  clear e2 b2 c2
  have b3 : B w2 g2 49 ([v, u]) := Hold.blk H2 0 rfl
  refine re (sq (sq (rg (r (lab [v, u] Try.underlying49 rfl ti49 rfl b3 rfl rfl) (cl go57 (spec_ValidDisk (hx.t (Hold.ch H2)) (hp.t (Hold.ch H2)) lx (by omega) lxx) (ac rfl an) ?_)))))
  rintro r wv ⟨rfl, cv⟩
  have H3 : Hold w [] wv [rB g2 49 ([v, u]), rB g4 49 ([.slice none 0 0, .slice none 0 0])] := Hold.t H2 cv
  clear H2
  clear cv
  refine r (nt rfl) (r (mv rfl) ?_)
  refine spb 11 rfl (fun h1 => ?_) (fun h1 => ?_)
  · rw [dcD_no (fun e => by simp [e.1] at h1)]
    have H4 : Hold w [] wv [rB g2 49 ([v, u]), rB g4 49 ([.slice none 0 0, .slice none 0 0]), rR u8 5 (.slice none 0 0) ([])] := Hold.nilrow u8 5 H3
    clear H3
    have H5 : Hold w [] wv [rB g2 49 ([v, u]), rB g4 49 ([.slice none 0 0, .slice none 0 0]), rR u8 5 (.slice none 0 0) ([]), rR kW 112 (.slice none 0 0) ([])] := Hold.nilrow kW 112 H4
    clear H4
    refine gn rfl rfl rfl (gn rfl rfl rfl (gn rfl rfl rfl (r (pk rfl rfl) (re (ct rfl (sq ?_))))))
    refine gen (fun ρ => ρ 1 = cv ∧ ρ 2 = .pointer (some ⟨g2, 0, none⟩) ∧ ρ 4 = .pointer (some ⟨g4, 0, none⟩) ∧ True) ⟨rfl, rfl, rfl, trivial⟩ ?_
    rintro ρ ⟨z1, z2, z4, -⟩
    have b5 : B wv g4 49 ([.slice none 0 0, .slice none 0 0]) := Hold.blk H5 1 rfl
    obtain ⟨_, R7⟩ : ∃ F, Kd.R u8 wv F (.slice none 0 0) ([]) := Hold.row H5 2 rfl
    refine rg (r (bd (r := [.slice none 0 0, .slice none 0 0]) ti49 pl49 pn rfl) (ef0 (xst (vs := [.slice none 0 0, .slice none 0 0]) ti49 z4 rfl rfl b5 rfl (Nat.le_of_ble_eq_true rfl) (oc (R7).oneCell (oc (R7).oneCell on))) ?_))
    rintro w6 ⟨-, b6, c6⟩
    have H6 : Hold w [] w6 [rB g2 49 ([v, u]), rB g4 49 ([.slice none 0 0, .slice none 0 0]), rR u8 5 (.slice none 0 0) ([]), rR kW 112 (.slice none 0 0) ([])] := Hold.setB H5 1 rfl b6 c6 rfl
    clear H5
    clear b6 c6
    refine re (rt ?_)
    have b8 : B w6 g4 49 ([.slice none 0 0, .slice none 0 0]) := Hold.blk H6 1 rfl
    have H7 : Hold w [] w6 [rR u8 5 (.slice none 0 0) ([]), rR kW 112 (.slice none 0 0) ([])] := (show Hold w [] w6 ([rR u8 5 (.slice none 0 0) ([]), rR kW 112 (.slice none 0 0) ([])] ++ [rB g2 49 ([v, u]), rB g4 49 ([.slice none 0 0, .slice none 0 0])]) from Hold.re H6 [2, 3, 0, 1] (by kernel_rfl) (by rfl)).drop
    clear H6
    exact finc  (cs := [.slice none 0 0, .slice none 0 0]) Try.results89 Try.underlying49 rfl ti49 z4 b8 rfl  ⟨_, _, rfl, H7⟩
  · refine gy rfl rfl rfl (r (mv rfl) (gy rfl rfl rfl (r (ln Try.underlying22 rfl ((hc.t (Hold.ch H3)))) (gy rfl rfl rfl (r (bi rfl rfl rfl) (r (pk rfl rfl) (re ?_)))))))
    refine cp rfl (fun h2 => ?_) (fun h2 => ?_)
    · rw [dcD_no (fun e => by have := e.2; omega)]
      have H4 : Hold w [] wv [rB g2 49 ([v, u]), rB g4 49 ([.slice none 0 0, .slice none 0 0]), rR u8 5 (.slice none 0 0) ([])] := Hold.nilrow u8 5 H3
      clear H3
      have H5 : Hold w [] wv [rB g2 49 ([v, u]), rB g4 49 ([.slice none 0 0, .slice none 0 0]), rR u8 5 (.slice none 0 0) ([]), rR kW 112 (.slice none 0 0) ([])] := Hold.nilrow kW 112 H4
      clear H4
      refine sq ?_
      refine gen (fun ρ => ρ 1 = cv ∧ ρ 2 = .pointer (some ⟨g2, 0, none⟩) ∧ ρ 4 = .pointer (some ⟨g4, 0, none⟩) ∧ True) ⟨rfl, rfl, rfl, trivial⟩ ?_
      rintro ρ ⟨z1, z2, z4, -⟩
      have b5 : B wv g4 49 ([.slice none 0 0, .slice none 0 0]) := Hold.blk H5 1 rfl
      obtain ⟨_, R7⟩ : ∃ F, Kd.R u8 wv F (.slice none 0 0) ([]) := Hold.row H5 2 rfl
      refine rg (r (bd (r := [.slice none 0 0, .slice none 0 0]) ti49 pl49 pn rfl) (ef0 (xst (vs := [.slice none 0 0, .slice none 0 0]) ti49 z4 rfl rfl b5 rfl (Nat.le_of_ble_eq_true rfl) (oc (R7).oneCell (oc (R7).oneCell on))) ?_))
      rintro w6 ⟨-, b6, c6⟩
      have H6 : Hold w [] w6 [rB g2 49 ([v, u]), rB g4 49 ([.slice none 0 0, .slice none 0 0]), rR u8 5 (.slice none 0 0) ([]), rR kW 112 (.slice none 0 0) ([])] := Hold.setB H5 1 rfl b6 c6 rfl
      clear H5
      clear b6 c6
      refine re (rt ?_)
      have b8 : B w6 g4 49 ([.slice none 0 0, .slice none 0 0]) := Hold.blk H6 1 rfl
      have H7 : Hold w [] w6 [rR u8 5 (.slice none 0 0) ([]), rR kW 112 (.slice none 0 0) ([])] := (show Hold w [] w6 ([rR u8 5 (.slice none 0 0) ([]), rR kW 112 (.slice none 0 0) ([])] ++ [rB g2 49 ([v, u]), rB g4 49 ([.slice none 0 0, .slice none 0 0])]) from Hold.re H6 [2, 3, 0, 1] (by kernel_rfl) (by rfl)).drop
      clear H6
      exact finc  (cs := [.slice none 0 0, .slice none 0 0]) Try.results89 Try.underlying49 rfl ti49 z4 b8 rfl  ⟨_, _, rfl, H7⟩
    · have hv : vdisk xs ps = true := by simpa using h1
      rw [dcD_yes ⟨hv, by omega⟩]
      have V := VD.of hv
      have hnp := V.num
      refine sk (sq ?_)
      refine gen (fun ρ => ρ 1 = cv ∧ ρ 2 = .pointer (some ⟨g2, 0, none⟩) ∧ ρ 4 = .pointer (some ⟨g4, 0, none⟩) ∧ True) ⟨rfl, rfl, rfl, trivial⟩ ?_
      rintro ρ ⟨z1, z2, z4, -⟩
      refine rg (ef (xbs0 (dk := i64) Try.underlying22 ti2) ?_)
      rintro v5 w5 N5
      have H4 : Hold w [] w5 [rB g2 49 ([v, u]), rB g4 49 ([.slice none 0 0, .slice none 0 0]), rR i64 2 v5 ([])] := Hold.newr H3 N5
      clear H3
      refine r (sa rfl) (re (sq (sq (rg (r (sa rfl) (re (bl ?_)))))))
      refine lp (α := Nat × Value) (fun (k, o) ρ w' => ρ 1 = cv ∧ ρ 2 = .pointer (some ⟨g2, 0, none⟩) ∧ ρ 4 = .pointer (some ⟨g4, 0, none⟩) ∧ ρ 6 = .int .i64 (k : Int) ∧ ρ 5 = o ∧ Hold w [] w' [rB g2 49 ([v, u]), rB g4 49 ([.slice none 0 0, .slice none 0 0]), rR i64 2 o ((List.range k).map (crI cs))] ∧ k ≤ ps.length) (fun (k, o) => ps.length - k) (0, v5) ?_ ?_
      · exact ⟨z1, z2, z4, rfl, rfl, H4, by omega⟩
      clear H4
      rintro ⟨k, o⟩ ρ w505 ⟨y1, y2, y4, y6, y5, H5, hk⟩
      have b6 : B w505 g2 49 ([v, u]) := Hold.blk H5 0 rfl
      refine sq (sq (rg (r (mv y6) (r (fa Try.underlying49 rfl ti47 rfl y2) (r (ldb Try.underlying47 rfl rfl b6 rfl) (r (ln Try.underlying47 rfl ((hp.t (Hold.ch H5)))) (r (bi rfl rfl rfl) (re ?_))))))))
      refine cp rfl (fun h => ?_) (fun h => ?_)
      · have hk' : k < ps.length := by omega
        refine sk (sq (bl (sq (rg (r (sa rfl) (re (sq (sq (rg (r (mv y6) (r (mv y1) (r (ln Try.underlying22 rfl ((hc.t (Hold.ch H5)))) (r (bi rfl rfl rfl) (re ?_))))))))))))))
        refine cp rfl (fun hl => ?_) (fun hl => ?_)
        · have hi' : k < cs.length := by omega
          have eA : crA cs k = cs[k] := dif_pos hi'
          refine gen (fun ρ => ρ 1 = cv ∧ ρ 2 = .pointer (some ⟨g2, 0, none⟩) ∧ ρ 4 = .pointer (some ⟨g4, 0, none⟩) ∧ ρ 5 = o ∧ ρ 6 = .int .i64 (k : Int) ∧ ρ 7 = .int .i64 0 ∧ True) ⟨y1, y2, y4, y5, y6, rfl, trivial⟩ ?_
          rintro ρ ⟨z1, z2, z4, z5, z6, z7, -⟩
          refine rg (r (mv z1) (r (mv z6) ?_))
          obtain ⟨c31_7, ad31_7, k31_7, e31_7, p31_7⟩ := Kd.R.place hc k (by omega)
          refine r (ix (j := k) Try.underlying22 ti2 e31_7 rfl (by omega)) (r (ld Try.underlying2 rfl rfl (Ch.cell (Hold.ch H5) p31_7.cell)) (r (sa rfl) (re (sq (sq (rg (r (mv rfl) (r (bi rfl rfl rfl) (r (mv rfl) ?_)))))))))
          refine sp 35 rfl (fun k0 => ?_) (fun k0 => ?_)
          · refine gn rfl rfl rfl (gn rfl rfl rfl (r (pk rfl rfl) (re (ct rfl ?_))))
            refine gen (fun ρ => ρ 1 = cv ∧ ρ 2 = .pointer (some ⟨g2, 0, none⟩) ∧ ρ 4 = .pointer (some ⟨g4, 0, none⟩) ∧ ρ 5 = o ∧ ρ 6 = .int .i64 (k : Int) ∧ ρ 7 = .int .i64 (cs[k]) ∧ True) ⟨z1, z2, z4, z5, z6, rfl, trivial⟩ ?_
            rintro ρ ⟨z1, z2, z4, z5, z6, z7, -⟩
            refine rg (r (sa rfl) (re (rg (r (mv z5) (r (mv rfl) (ef (xbs1 (cs := [.int .i64 64]) Try.underlying22 ti2 rfl rfl rfl (cel1 rfl) rfl) ?_))))))
            rintro _ w8 ⟨g41, e8, rfl, -, b8, c8⟩
            have H6 : Hold w [] w8 [rB g2 49 ([v, u]), rB g4 49 ([.slice none 0 0, .slice none 0 0]), rR i64 2 o ((List.range k).map (crI cs)), rB g41 2 ([.int .i64 64])] := Hold.newB H5 e8 b8 c8
            clear H5
            clear e8 b8 c8
            have b10 : B w8 g41 2 ([.int .i64 64]) := Hold.blk H6 3 rfl
            obtain ⟨F11, P11, n11, s11, K11⟩ := Hold.pick H6 2 rfl
            replace P11 : Kd.W i64 2 w8 F11 o ((List.range k).map (crI cs)) := P11
            refine ef (xapb (ys := [64]) Try.underlying22 ti2 rfl rfl rfl P11 b10 (els_one (R := Kd.O i64 _) (show Kd.O i64 _ [] 64 _ from ⟨rfl, rfl⟩)) (nodup_nil n11) (by simp; omega)) ?_
            rintro v42_9 w9 ⟨F9, A9⟩
            have H7 : Hold w [] w9 [rB g2 49 ([v, u]), rB g4 49 ([.slice none 0 0, .slice none 0 0]), rR i64 2 v42_9 (((List.range k).map (crI cs)) ++ [64]), rB g41 2 ([.int .i64 64])] := Hold.apd K11 P11 A9 rfl
            clear H6
            clear A9 K11 P11 n11 s11
            refine r (sa rfl) (re (be (rg (r (mv z6) (r (ad (a := (k : Int)) (b := 1) ((k : Int) + 1) rfl rfl (by omega)) (r (sa rfl) (re ?_)))))))
            have e9 : 64 = crI cs k := by unfold crI; rw [eA]; split <;> omega
            have H8 : Hold w [] w9 [rB g2 49 ([v, u]), rB g4 49 ([.slice none 0 0, .slice none 0 0]), rR i64 2 v42_9 (((List.range k).map (crI cs)) ++ [64])] := (show Hold w [] w9 ([rB g2 49 ([v, u]), rB g4 49 ([.slice none 0 0, .slice none 0 0]), rR i64 2 v42_9 (((List.range k).map (crI cs)) ++ [64])] ++ [rB g41 2 ([.int .i64 64])]) from Hold.re H7 [0, 1, 2, 3] (by kernel_rfl) (by rfl)).drop
            clear H7
            exact ag (k + 1, v42_9) ⟨z1, z2, z4, rfl, rfl, (by rw [List.range_succ, List.map_append, List.map_singleton, ← e9]; exact H8), by omega⟩ (by first | omega | (dsimp only; omega))
          · refine gy rfl rfl rfl (r (mv rfl) (gy rfl rfl rfl (r (bi rfl rfl rfl) (r (pk rfl rfl) (re ?_)))))
            refine cp rfl (fun k1 => ?_) (fun k1 => ?_)
            · refine gen (fun ρ => ρ 1 = cv ∧ ρ 2 = .pointer (some ⟨g2, 0, none⟩) ∧ ρ 4 = .pointer (some ⟨g4, 0, none⟩) ∧ ρ 5 = o ∧ ρ 6 = .int .i64 (k : Int) ∧ ρ 7 = .int .i64 (cs[k]) ∧ True) ⟨z1, z2, z4, z5, z6, rfl, trivial⟩ ?_
              rintro ρ ⟨z1, z2, z4, z5, z6, z7, -⟩
              refine rg (r (sa rfl) (re (rg (r (mv z5) (r (mv rfl) (ef (xbs1 (cs := [.int .i64 64]) Try.underlying22 ti2 rfl rfl rfl (cel1 rfl) rfl) ?_))))))
              rintro _ w8 ⟨g41, e8, rfl, -, b8, c8⟩
              have H6 : Hold w [] w8 [rB g2 49 ([v, u]), rB g4 49 ([.slice none 0 0, .slice none 0 0]), rR i64 2 o ((List.range k).map (crI cs)), rB g41 2 ([.int .i64 64])] := Hold.newB H5 e8 b8 c8
              clear H5
              clear e8 b8 c8
              have b10 : B w8 g41 2 ([.int .i64 64]) := Hold.blk H6 3 rfl
              obtain ⟨F11, P11, n11, s11, K11⟩ := Hold.pick H6 2 rfl
              replace P11 : Kd.W i64 2 w8 F11 o ((List.range k).map (crI cs)) := P11
              refine ef (xapb (ys := [64]) Try.underlying22 ti2 rfl rfl rfl P11 b10 (els_one (R := Kd.O i64 _) (show Kd.O i64 _ [] 64 _ from ⟨rfl, rfl⟩)) (nodup_nil n11) (by simp; omega)) ?_
              rintro v42_9 w9 ⟨F9, A9⟩
              have H7 : Hold w [] w9 [rB g2 49 ([v, u]), rB g4 49 ([.slice none 0 0, .slice none 0 0]), rR i64 2 v42_9 (((List.range k).map (crI cs)) ++ [64]), rB g41 2 ([.int .i64 64])] := Hold.apd K11 P11 A9 rfl
              clear H6
              clear A9 K11 P11 n11 s11
              refine r (sa rfl) (re (be (rg (r (mv z6) (r (ad (a := (k : Int)) (b := 1) ((k : Int) + 1) rfl rfl (by omega)) (r (sa rfl) (re ?_)))))))
              have e9 : 64 = crI cs k := by unfold crI; rw [eA]; split <;> omega
              have H8 : Hold w [] w9 [rB g2 49 ([v, u]), rB g4 49 ([.slice none 0 0, .slice none 0 0]), rR i64 2 v42_9 (((List.range k).map (crI cs)) ++ [64])] := (show Hold w [] w9 ([rB g2 49 ([v, u]), rB g4 49 ([.slice none 0 0, .slice none 0 0]), rR i64 2 v42_9 (((List.range k).map (crI cs)) ++ [64])] ++ [rB g41 2 ([.int .i64 64])]) from Hold.re H7 [0, 1, 2, 3] (by kernel_rfl) (by rfl)).drop
              clear H7
              exact ag (k + 1, v42_9) ⟨z1, z2, z4, rfl, rfl, (by rw [List.range_succ, List.map_append, List.map_singleton, ← e9]; exact H8), by omega⟩ (by first | omega | (dsimp only; omega))
            · refine sk ?_
              refine gen (fun ρ => ρ 1 = cv ∧ ρ 2 = .pointer (some ⟨g2, 0, none⟩) ∧ ρ 4 = .pointer (some ⟨g4, 0, none⟩) ∧ ρ 5 = o ∧ ρ 6 = .int .i64 (k : Int) ∧ ρ 7 = .int .i64 (cs[k]) ∧ True) ⟨z1, z2, z4, z5, z6, rfl, trivial⟩ ?_
              rintro ρ ⟨z1, z2, z4, z5, z6, z7, -⟩
              refine rg (r (mv z5) (r (mv z7) (ef (xbs1 (cs := [.int .i64 (cs[k])]) Try.underlying22 ti2 rfl rfl rfl (cel1 rfl) rfl) ?_)))
              rintro _ w8 ⟨g41, e8, rfl, -, b8, c8⟩
              have H6 : Hold w [] w8 [rB g2 49 ([v, u]), rB g4 49 ([.slice none 0 0, .slice none 0 0]), rR i64 2 o ((List.range k).map (crI cs)), rB g41 2 ([.int .i64 (cs[k])])] := Hold.newB H5 e8 b8 c8
              clear H5
              clear e8 b8 c8
              have b10 : B w8 g41 2 ([.int .i64 (cs[k])]) := Hold.blk H6 3 rfl
              obtain ⟨F11, P11, n11, s11, K11⟩ := Hold.pick H6 2 rfl
              replace P11 : Kd.W i64 2 w8 F11 o ((List.range k).map (crI cs)) := P11
              refine ef (xapb (ys := [cs[k]]) Try.underlying22 ti2 rfl rfl rfl P11 b10 (els_one (R := Kd.O i64 _) (show Kd.O i64 _ [] (cs[k]) _ from ⟨rfl, rfl⟩)) (nodup_nil n11) (by simp; omega)) ?_
              rintro v42_9 w9 ⟨F9, A9⟩
              have H7 : Hold w [] w9 [rB g2 49 ([v, u]), rB g4 49 ([.slice none 0 0, .slice none 0 0]), rR i64 2 v42_9 (((List.range k).map (crI cs)) ++ [cs[k]]), rB g41 2 ([.int .i64 (cs[k])])] := Hold.apd K11 P11 A9 rfl
              clear H6
              clear A9 K11 P11 n11 s11
              refine r (sa rfl) (re (be (rg (r (mv z6) (r (ad (a := (k : Int)) (b := 1) ((k : Int) + 1) rfl rfl (by omega)) (r (sa rfl) (re ?_)))))))
              have e9 : cs[k] = crI cs k := by unfold crI; rw [eA]; split <;> omega
              have H8 : Hold w [] w9 [rB g2 49 ([v, u]), rB g4 49 ([.slice none 0 0, .slice none 0 0]), rR i64 2 v42_9 (((List.range k).map (crI cs)) ++ [cs[k]])] := (show Hold w [] w9 ([rB g2 49 ([v, u]), rB g4 49 ([.slice none 0 0, .slice none 0 0]), rR i64 2 v42_9 (((List.range k).map (crI cs)) ++ [cs[k]])] ++ [rB g41 2 ([.int .i64 (cs[k])])]) from Hold.re H7 [0, 1, 2, 3] (by kernel_rfl) (by rfl)).drop
              clear H7
              exact ag (k + 1, v42_9) ⟨z1, z2, z4, rfl, rfl, (by rw [List.range_succ, List.map_append, List.map_singleton, ← e9]; exact H8), by omega⟩ (by first | omega | (dsimp only; omega))
        · have eA : crA cs k = 0 := dif_neg (by omega)
          refine sk (sq (sq ?_))
          refine gen (fun ρ => ρ 1 = cv ∧ ρ 2 = .pointer (some ⟨g2, 0, none⟩) ∧ ρ 4 = .pointer (some ⟨g4, 0, none⟩) ∧ ρ 5 = o ∧ ρ 6 = .int .i64 (k : Int) ∧ ρ 7 = .int .i64 0 ∧ True) ⟨y1, y2, y4, y5, y6, rfl, trivial⟩ ?_
          rintro ρ ⟨z1, z2, z4, z5, z6, z7, -⟩
          refine rg (r (mv z7) (r (bi rfl rfl rfl) (r (mv rfl) ?_)))
          refine sp 35 rfl (fun k0 => ?_) (fun k0 => ?_)
          · refine gn rfl rfl rfl (gn rfl rfl rfl (r (pk rfl rfl) (re (ct rfl (rg (r (sa rfl) (re (rg (r (mv z5) (r (mv rfl) (ef (xbs1 (cs := [.int .i64 64]) Try.underlying22 ti2 rfl rfl rfl (cel1 rfl) rfl) ?_)))))))))))
            rintro _ w7 ⟨g41, e7, rfl, -, b7, c7⟩
            have H6 : Hold w [] w7 [rB g2 49 ([v, u]), rB g4 49 ([.slice none 0 0, .slice none 0 0]), rR i64 2 o ((List.range k).map (crI cs)), rB g41 2 ([.int .i64 64])] := Hold.newB H5 e7 b7 c7
            clear H5
            clear e7 b7 c7
            have b9 : B w7 g41 2 ([.int .i64 64]) := Hold.blk H6 3 rfl
            obtain ⟨F10, P10, n10, s10, K10⟩ := Hold.pick H6 2 rfl
            replace P10 : Kd.W i64 2 w7 F10 o ((List.range k).map (crI cs)) := P10
            refine ef (xapb (ys := [64]) Try.underlying22 ti2 rfl rfl rfl P10 b9 (els_one (R := Kd.O i64 _) (show Kd.O i64 _ [] 64 _ from ⟨rfl, rfl⟩)) (nodup_nil n10) (by simp; omega)) ?_
            rintro v42_8 w8 ⟨F8, A8⟩
            have H7 : Hold w [] w8 [rB g2 49 ([v, u]), rB g4 49 ([.slice none 0 0, .slice none 0 0]), rR i64 2 v42_8 (((List.range k).map (crI cs)) ++ [64]), rB g41 2 ([.int .i64 64])] := Hold.apd K10 P10 A8 rfl
            clear H6
            clear A8 K10 P10 n10 s10
            refine r (sa rfl) (re (be ?_))
            refine gen (fun ρ => ρ 1 = cv ∧ ρ 2 = .pointer (some ⟨g2, 0, none⟩) ∧ ρ 4 = .pointer (some ⟨g4, 0, none⟩) ∧ ρ 5 = v42_8 ∧ ρ 6 = .int .i64 (k : Int) ∧ True) ⟨z1, z2, z4, rfl, z6, trivial⟩ ?_
            rintro ρ ⟨z1, z2, z4, z5, z6, -⟩
            refine rg (r (mv z6) (r (ad (a := (k : Int)) (b := 1) ((k : Int) + 1) rfl rfl (by omega)) (r (sa rfl) (re ?_))))
            have e9 : 64 = crI cs k := by unfold crI; rw [eA]; split <;> omega
            have H8 : Hold w [] w8 [rB g2 49 ([v, u]), rB g4 49 ([.slice none 0 0, .slice none 0 0]), rR i64 2 v42_8 (((List.range k).map (crI cs)) ++ [64])] := (show Hold w [] w8 ([rB g2 49 ([v, u]), rB g4 49 ([.slice none 0 0, .slice none 0 0]), rR i64 2 v42_8 (((List.range k).map (crI cs)) ++ [64])] ++ [rB g41 2 ([.int .i64 64])]) from Hold.re H7 [0, 1, 2, 3] (by kernel_rfl) (by rfl)).drop
            clear H7
            exact ag (k + 1, v42_8) ⟨z1, z2, z4, rfl, z5, (by rw [List.range_succ, List.map_append, List.map_singleton, ← e9]; exact H8), by omega⟩ (by first | omega | (dsimp only; omega))
          · refine gy rfl rfl rfl (r (mv z7) (gy rfl rfl rfl (r (bi rfl rfl rfl) (r (pk rfl rfl) (re ?_)))))
            refine cp rfl (fun k1 => ?_) (fun k1 => ?_)
            · refine rg (r (sa rfl) (re (rg (r (mv z5) (r (mv rfl) (ef (xbs1 (cs := [.int .i64 64]) Try.underlying22 ti2 rfl rfl rfl (cel1 rfl) rfl) ?_))))))
              rintro _ w7 ⟨g41, e7, rfl, -, b7, c7⟩
              have H6 : Hold w [] w7 [rB g2 49 ([v, u]), rB g4 49 ([.slice none 0 0, .slice none 0 0]), rR i64 2 o ((List.range k).map (crI cs)), rB g41 2 ([.int .i64 64])] := Hold.newB H5 e7 b7 c7
              clear H5
              clear e7 b7 c7
              have b9 : B w7 g41 2 ([.int .i64 64]) := Hold.blk H6 3 rfl
              obtain ⟨F10, P10, n10, s10, K10⟩ := Hold.pick H6 2 rfl
              replace P10 : Kd.W i64 2 w7 F10 o ((List.range k).map (crI cs)) := P10
              refine ef (xapb (ys := [64]) Try.underlying22 ti2 rfl rfl rfl P10 b9 (els_one (R := Kd.O i64 _) (show Kd.O i64 _ [] 64 _ from ⟨rfl, rfl⟩)) (nodup_nil n10) (by simp; omega)) ?_
              rintro v42_8 w8 ⟨F8, A8⟩
              have H7 : Hold w [] w8 [rB g2 49 ([v, u]), rB g4 49 ([.slice none 0 0, .slice none 0 0]), rR i64 2 v42_8 (((List.range k).map (crI cs)) ++ [64]), rB g41 2 ([.int .i64 64])] := Hold.apd K10 P10 A8 rfl
              clear H6
              clear A8 K10 P10 n10 s10
              refine r (sa rfl) (re (be ?_))
              refine gen (fun ρ => ρ 1 = cv ∧ ρ 2 = .pointer (some ⟨g2, 0, none⟩) ∧ ρ 4 = .pointer (some ⟨g4, 0, none⟩) ∧ ρ 5 = v42_8 ∧ ρ 6 = .int .i64 (k : Int) ∧ True) ⟨z1, z2, z4, rfl, z6, trivial⟩ ?_
              rintro ρ ⟨z1, z2, z4, z5, z6, -⟩
              refine rg (r (mv z6) (r (ad (a := (k : Int)) (b := 1) ((k : Int) + 1) rfl rfl (by omega)) (r (sa rfl) (re ?_))))
              have e9 : 64 = crI cs k := by unfold crI; rw [eA]; split <;> omega
              have H8 : Hold w [] w8 [rB g2 49 ([v, u]), rB g4 49 ([.slice none 0 0, .slice none 0 0]), rR i64 2 v42_8 (((List.range k).map (crI cs)) ++ [64])] := (show Hold w [] w8 ([rB g2 49 ([v, u]), rB g4 49 ([.slice none 0 0, .slice none 0 0]), rR i64 2 v42_8 (((List.range k).map (crI cs)) ++ [64])] ++ [rB g41 2 ([.int .i64 64])]) from Hold.re H7 [0, 1, 2, 3] (by kernel_rfl) (by rfl)).drop
              clear H7
              exact ag (k + 1, v42_8) ⟨z1, z2, z4, rfl, z5, (by rw [List.range_succ, List.map_append, List.map_singleton, ← e9]; exact H8), by omega⟩ (by first | omega | (dsimp only; omega))
            · refine sk (rg (r (mv z5) (r (mv z7) (ef (xbs1 (cs := [.int .i64 0]) Try.underlying22 ti2 rfl rfl rfl (cel1 rfl) rfl) ?_))))
              rintro _ w7 ⟨g41, e7, rfl, -, b7, c7⟩
              have H6 : Hold w [] w7 [rB g2 49 ([v, u]), rB g4 49 ([.slice none 0 0, .slice none 0 0]), rR i64 2 o ((List.range k).map (crI cs)), rB g41 2 ([.int .i64 0])] := Hold.newB H5 e7 b7 c7
              clear H5
              clear e7 b7 c7
              have b9 : B w7 g41 2 ([.int .i64 0]) := Hold.blk H6 3 rfl
              obtain ⟨F10, P10, n10, s10, K10⟩ := Hold.pick H6 2 rfl
              replace P10 : Kd.W i64 2 w7 F10 o ((List.range k).map (crI cs)) := P10
              refine ef (xapb (ys := [0]) Try.underlying22 ti2 rfl rfl rfl P10 b9 (els_one (R := Kd.O i64 _) (show Kd.O i64 _ [] 0 _ from ⟨rfl, rfl⟩)) (nodup_nil n10) (by simp; omega)) ?_
              rintro v42_8 w8 ⟨F8, A8⟩
              have H7 : Hold w [] w8 [rB g2 49 ([v, u]), rB g4 49 ([.slice none 0 0, .slice none 0 0]), rR i64 2 v42_8 (((List.range k).map (crI cs)) ++ [0]), rB g41 2 ([.int .i64 0])] := Hold.apd K10 P10 A8 rfl
              clear H6
              clear A8 K10 P10 n10 s10
              refine r (sa rfl) (re (be ?_))
              refine gen (fun ρ => ρ 1 = cv ∧ ρ 2 = .pointer (some ⟨g2, 0, none⟩) ∧ ρ 4 = .pointer (some ⟨g4, 0, none⟩) ∧ ρ 5 = v42_8 ∧ ρ 6 = .int .i64 (k : Int) ∧ True) ⟨z1, z2, z4, rfl, z6, trivial⟩ ?_
              rintro ρ ⟨z1, z2, z4, z5, z6, -⟩
              refine rg (r (mv z6) (r (ad (a := (k : Int)) (b := 1) ((k : Int) + 1) rfl rfl (by omega)) (r (sa rfl) (re ?_))))
              have e9 : 0 = crI cs k := by unfold crI; rw [eA]; split <;> omega
              have H8 : Hold w [] w8 [rB g2 49 ([v, u]), rB g4 49 ([.slice none 0 0, .slice none 0 0]), rR i64 2 v42_8 (((List.range k).map (crI cs)) ++ [0])] := (show Hold w [] w8 ([rB g2 49 ([v, u]), rB g4 49 ([.slice none 0 0, .slice none 0 0]), rR i64 2 v42_8 (((List.range k).map (crI cs)) ++ [0])] ++ [rB g41 2 ([.int .i64 0])]) from Hold.re H7 [0, 1, 2, 3] (by kernel_rfl) (by rfl)).drop
              clear H7
              exact ag (k + 1, v42_8) ⟨z1, z2, z4, rfl, z5, (by rw [List.range_succ, List.map_append, List.map_singleton, ← e9]; exact H8), by omega⟩ (by first | omega | (dsimp only; omega))
      · obtain rfl : k = ps.length := by omega
        have eS := stN_congr (xs := xs) (ps := ps) (f := cutF ((List.range ps.length).map (crI cs))) (g := fun i => (crI cs i).toNat) (fun k hk => by rw [cutF, crA_map hk]) ps.length (Nat.le_refl _)
        obtain ⟨_, R8⟩ : ∃ F, Kd.R i64 w505 F o ((List.range ps.length).map (crI cs)) := Hold.row H5 2 rfl
        refine ex rfl (sq (rg (r (lab [v, u] Try.underlying49 rfl ti49 y2 b6 rfl rfl) (r (mv y5) (cl go138 ((by have h9 := l1Settle (hx.t (Hold.ch H5)) (hp.t (Hold.ch H5)) R8 V (by simp) (fun i hi => by rw [crA_map hi]; exact crI_rng cs i); rw [eS] at h9; exact h9)) (ac rfl (ac rfl an)) ?_)))))
        rintro r wd ⟨a, c, rfl, Hd⟩
        have H6 : Hold w [] wd [rB g2 49 ([v, u]), rB g4 49 ([.slice none 0 0, .slice none 0 0]), rR i64 2 o ((List.range ps.length).map (crI cs)), rR u8 5 a (stN xs ps (fun i => (crI cs i).toNat) ps.length), rR kW 112 c ([] : List Wr)] := Hold.news H5 Hd
        clear H5
        clear Hd
        have b9 : B wd g4 49 ([.slice none 0 0, .slice none 0 0]) := Hold.blk H6 1 rfl
        obtain ⟨_, R11⟩ : ∃ F, Kd.R kW wd F c ([] : List Wr) := Hold.row H6 4 rfl
        obtain ⟨_, R12⟩ : ∃ F, Kd.R u8 wd F a (stN xs ps (fun i => (crI cs i).toNat) ps.length) := Hold.row H6 3 rfl
        refine ef0 (xst (vs := [a, c]) ti49 y4 rfl rfl b9 rfl (Nat.le_of_ble_eq_true rfl) (oc (R12).oneCell (oc (R11).oneCell on))) ?_
        rintro w10 ⟨-, b10, c10⟩
        have H7 : Hold w [] w10 [rB g2 49 ([v, u]), rB g4 49 ([a, c]), rR i64 2 o ((List.range ps.length).map (crI cs)), rR u8 5 a (stN xs ps (fun i => (crI cs i).toNat) ps.length), rR kW 112 c ([] : List Wr)] := Hold.setB H6 1 rfl b10 c10 rfl
        clear H6
        clear b10 c10
        refine re (rt ?_)
        have b13 : B w10 g4 49 ([a, c]) := Hold.blk H7 1 rfl
        have H8 : Hold w [] w10 [rR u8 5 a (stN xs ps (fun i => (crI cs i).toNat) ps.length), rR kW 112 c ([] : List Wr)] := (show Hold w [] w10 ([rR u8 5 a (stN xs ps (fun i => (crI cs i).toNat) ps.length), rR kW 112 c ([] : List Wr)] ++ [rB g2 49 ([v, u]), rB g4 49 ([a, c]), rR i64 2 o ((List.range ps.length).map (crI cs))]) from Hold.re H7 [3, 4, 0, 1, 2] (by kernel_rfl) (by rfl)).drop
        clear H7
        exact finc  (cs := [a, c]) Try.results89 Try.underlying49 rfl ti49 y4 b13 rfl  ⟨_, _, rfl, H8⟩
attribute [local irreducible] dbD dcD
theorem w_FnExactDiskBarrier {w : World} {F G : List Nat} {v u : Value} {xs : List Int} {ps : List Wr} (hx : u8.R w F v xs) (hp : kW.R w G u ps) (l0 : xs.length ≤ 9223372036854775807) (l1 : ps.length ≤ 9223372036854775807) (l2 : ∀ x, x ∈ ps → x.2.length ≤ 9223372036854775807) :
    Ret Try.prog 20 #[.agg #[v, u]] w (fun r w' => r = .bool true ∧ Ch [] w w') := by
  refine enter Try.func20 rfl Try.ntmps20 (by rfl) (by rfl) ?_
  have H0 : Hold w [] w [] := Hold.start w
  refine sq (rg (ef (xbx (t := 74) rfl rfl) ?_))
  rintro _ w1 ⟨g1, e1, rfl, -, b1, c1⟩
  have H1 : Hold w [] w1 [rB g1 74 ([v, u])] := Hold.newB H0 e1 b1 c1
  clear H0
  clear e1 b1 c1
  have b2 : B w1 g1 74 ([v, u]) := Hold.blk H1 0 rfl
  refine r (sa rfl) (re (sq (rg (r (sa rfl) (re (sq (rg (r (lab [v, u] Try.underlying74 rfl ti74 rfl b2 rfl rfl) (r (mv rfl) (cl go56 (szDisk (hx.t (Hold.ch H1)) (hp.t (Hold.ch H1)) l0 l1 l2 (by omega)) (ac rfl (ac rfl an)) ?_))))))))))
  rintro r wz ⟨rfl, cz⟩
  have H2 : Hold w [] wz [rB g1 74 ([v, u])] := Hold.t H1 cz
  clear H1
  clear cz
  refine r (sa rfl) (re (sq (sq (rg (r (mv rfl) (r (bi rfl rfl rfl) (re ?_)))))))
  refine cp rfl (fun h => ?_) (fun h => ?_)
  · refine sq (rg (r (sa rfl) (re (rt ?_))))
    exact fin1 (v := .bool true) Try.results20 rfl ⟨rfl, Hold.ch H2⟩
  · have hsz : xs.length + szW ps ≤ 1048576 := by unfold lft at h; split at h <;> omega
    have hlen := szW_len (xs := ps)
    have lx : xs.length ≤ 1000000000 := by omega
    have hlp : ps.length ≤ 2000000 := by omega
    have hlp2 : ps.length ≤ 1000000000 := by omega
    have hsz2 : szW ps ≤ 1000000000 := by omega
    have lxx : ∀ x, x ∈ ps → x.2.length ≤ 1000000000 := fun x hx => by have := szW_mem x hx; omega
    obtain ⟨m1, m2, m3, m4⟩ := dbD_sm (xs := xs) (ps := ps)
    have b4 : B wz g1 74 ([v, u]) := Hold.blk H2 0 rfl
    refine sk (sq (rg (r (lab [v, u] Try.underlying74 rfl ti74 rfl b4 rfl rfl) (cl go58 (toDisk_H (hx.t (Hold.ch H2)) (hp.t (Hold.ch H2)) (by first | assumption | omega | (simp; omega)) (by first | assumption | omega | (simp; omega)) (by assumption)) (ac rfl an) ?_))))
    rintro r wt5 ⟨a_5, b_5, rfl, Ht5⟩
    have H3 : Hold w [] wt5 [rB g1 74 ([v, u]), rR u8 5 a_5 xs, rR kW 112 b_5 ps] := Hold.news H2 Ht5
    clear H2
    clear Ht5
    obtain ⟨_, R9⟩ : ∃ F, Kd.R u8 wt5 F a_5 xs := Hold.row H3 1 rfl
    obtain ⟨_, R10⟩ : ∃ F, Kd.R kW wt5 F b_5 ps := Hold.row H3 2 rfl
    refine cl go84 (spec_DiskBarrier R9 R10 lx hlp lxx) (ac rfl an) ?_
    rintro r wD7 ⟨a_7, b_7, rfl, HD7⟩
    have H4 : Hold w [] wD7 [rB g1 74 ([v, u]), rR u8 5 a_5 xs, rR kW 112 b_5 ps, rR u8 5 a_7 ((dbD xs ps).1), rR kW 112 b_7 ((dbD xs ps).2)] := Hold.news H3 HD7
    clear H3
    clear HD7
    refine ef (xal ti49) ?_
    rintro _ w11 ⟨g4, e11, rfl, -, b11, c11⟩
    have H5 : Hold w [] w11 [rB g1 74 ([v, u]), rR u8 5 a_5 xs, rR kW 112 b_5 ps, rR u8 5 a_7 ((dbD xs ps).1), rR kW 112 b_7 ((dbD xs ps).2), rB g4 49 ([.slice none 0 0, .slice none 0 0])] := Hold.newB H4 e11 b11 c11
    clear H4
    clear e11 b11 c11
    have b12 : B w11 g4 49 ([.slice none 0 0, .slice none 0 0]) := Hold.blk H5 5 rfl
    obtain ⟨_, R14⟩ : ∃ F, Kd.R kW w11 F b_7 ((dbD xs ps).2) := Hold.row H5 4 rfl
    obtain ⟨_, R15⟩ : ∃ F, Kd.R u8 w11 F a_7 ((dbD xs ps).1) := Hold.row H5 3 rfl
    refine ef0 (xst (vs := [a_7, b_7]) ti49 rfl rfl rfl b12 rfl (Nat.le_of_ble_eq_true rfl) (oc (R15).oneCell (oc (R14).oneCell on))) ?_
    rintro w13 ⟨-, b13, c13⟩
    have H6 : Hold w [] w13 [rB g1 74 ([v, u]), rR u8 5 a_5 xs, rR kW 112 b_5 ps, rR u8 5 a_7 ((dbD xs ps).1), rR kW 112 b_7 ((dbD xs ps).2), rB g4 49 ([a_7, b_7])] := Hold.setB H5 5 rfl b13 c13 rfl
    clear H5
    clear b13 c13
    refine re (sq ?_)
    refine gen (fun ρ => ρ 1 = .pointer (some ⟨g1, 0, none⟩) ∧ ρ 2 = .bool false ∧ ρ 4 = .pointer (some ⟨g4, 0, none⟩) ∧ True) ⟨rfl, rfl, rfl, trivial⟩ ?_
    rintro ρ ⟨z1, z2, z4, -⟩
    have b16 : B w13 g1 74 ([v, u]) := Hold.blk H6 0 rfl
    refine rg (r (lab [v, u] Try.underlying74 rfl ti74 z1 b16 rfl rfl) (cl go58 (toDisk_H (hx.t (Hold.ch H6)) (hp.t (Hold.ch H6)) (by first | assumption | omega | (simp; omega)) (by first | assumption | omega | (simp; omega)) (by assumption)) (ac rfl an) ?_))
    rintro r wt17 ⟨a_17, b_17, rfl, Ht17⟩
    have H7 : Hold w [] wt17 [rB g1 74 ([v, u]), rR u8 5 a_5 xs, rR kW 112 b_5 ps, rR u8 5 a_7 ((dbD xs ps).1), rR kW 112 b_7 ((dbD xs ps).2), rB g4 49 ([a_7, b_7]), rR u8 5 a_17 xs, rR kW 112 b_17 ps] := Hold.news H6 Ht17
    clear H6
    clear Ht17
    refine ef (xal ti49) ?_
    rintro _ w19 ⟨g5, e19, rfl, -, b19, c19⟩
    have H8 : Hold w [] w19 [rB g1 74 ([v, u]), rR u8 5 a_5 xs, rR kW 112 b_5 ps, rR u8 5 a_7 ((dbD xs ps).1), rR kW 112 b_7 ((dbD xs ps).2), rB g4 49 ([a_7, b_7]), rR u8 5 a_17 xs, rR kW 112 b_17 ps, rB g5 49 ([.slice none 0 0, .slice none 0 0])] := Hold.newB H7 e19 b19 c19
    clear H7
    clear e19 b19 c19
    have b20 : B w19 g5 49 ([.slice none 0 0, .slice none 0 0]) := Hold.blk H8 8 rfl
    obtain ⟨_, R22⟩ : ∃ F, Kd.R kW w19 F b_17 ps := Hold.row H8 7 rfl
    obtain ⟨_, R23⟩ : ∃ F, Kd.R u8 w19 F a_17 xs := Hold.row H8 6 rfl
    refine ef0 (xst (vs := [a_17, b_17]) ti49 rfl rfl rfl b20 rfl (Nat.le_of_ble_eq_true rfl) (oc (R23).oneCell (oc (R22).oneCell on))) ?_
    rintro w21 ⟨-, b21, c21⟩
    have H9 : Hold w [] w21 [rB g1 74 ([v, u]), rR u8 5 a_5 xs, rR kW 112 b_5 ps, rR u8 5 a_7 ((dbD xs ps).1), rR kW 112 b_7 ((dbD xs ps).2), rB g4 49 ([a_7, b_7]), rR u8 5 a_17 xs, rR kW 112 b_17 ps, rB g5 49 ([a_17, b_17])] := Hold.setB H8 8 rfl b21 c21 rfl
    clear H8
    clear b21 c21
    have b24 : B w21 g5 49 ([a_17, b_17]) := Hold.blk H9 8 rfl
    obtain ⟨_, R27⟩ : ∃ F, Kd.R u8 w21 F a_17 xs := Hold.row H9 6 rfl
    obtain ⟨_, R28⟩ : ∃ F, Kd.R kW w21 F b_17 ps := Hold.row H9 7 rfl
    refine re (sq (rg (r (lab [a_17, b_17] Try.underlying49 rfl ti49 rfl b24 rfl rfl) (cl go85 (impl_DiskBarrier R27 R28 lx hlp lxx) (ac rfl an) ?_))))
    rintro r wD25 ⟨a_25, b_25, rfl, HD25⟩
    have H10 : Hold w [] wD25 [rB g1 74 ([v, u]), rR u8 5 a_5 xs, rR kW 112 b_5 ps, rR u8 5 a_7 ((dbD xs ps).1), rR kW 112 b_7 ((dbD xs ps).2), rB g4 49 ([a_7, b_7]), rR u8 5 a_17 xs, rR kW 112 b_17 ps, rB g5 49 ([a_17, b_17]), rR u8 5 a_25 ((dbD xs ps).1), rR kW 112 b_25 ((dbD xs ps).2)] := Hold.news H9 HD25
    clear H9
    clear HD25
    refine ef (xal ti49) ?_
    rintro _ w29 ⟨g6, e29, rfl, -, b29, c29⟩
    have H11 : Hold w [] w29 [rB g1 74 ([v, u]), rR u8 5 a_5 xs, rR kW 112 b_5 ps, rR u8 5 a_7 ((dbD xs ps).1), rR kW 112 b_7 ((dbD xs ps).2), rB g4 49 ([a_7, b_7]), rR u8 5 a_17 xs, rR kW 112 b_17 ps, rB g5 49 ([a_17, b_17]), rR u8 5 a_25 ((dbD xs ps).1), rR kW 112 b_25 ((dbD xs ps).2), rB g6 49 ([.slice none 0 0, .slice none 0 0])] := Hold.newB H10 e29 b29 c29
    clear H10
    clear e29 b29 c29
    have b30 : B w29 g6 49 ([.slice none 0 0, .slice none 0 0]) := Hold.blk H11 11 rfl
    obtain ⟨_, R32⟩ : ∃ F, Kd.R kW w29 F b_25 ((dbD xs ps).2) := Hold.row H11 10 rfl
    obtain ⟨_, R33⟩ : ∃ F, Kd.R u8 w29 F a_25 ((dbD xs ps).1) := Hold.row H11 9 rfl
    refine ef0 (xst (vs := [a_25, b_25]) ti49 rfl rfl rfl b30 rfl (Nat.le_of_ble_eq_true rfl) (oc (R33).oneCell (oc (R32).oneCell on))) ?_
    rintro w31 ⟨-, b31, c31⟩
    have H12 : Hold w [] w31 [rB g1 74 ([v, u]), rR u8 5 a_5 xs, rR kW 112 b_5 ps, rR u8 5 a_7 ((dbD xs ps).1), rR kW 112 b_7 ((dbD xs ps).2), rB g4 49 ([a_7, b_7]), rR u8 5 a_17 xs, rR kW 112 b_17 ps, rB g5 49 ([a_17, b_17]), rR u8 5 a_25 ((dbD xs ps).1), rR kW 112 b_25 ((dbD xs ps).2), rB g6 49 ([a_25, b_25])] := Hold.setB H11 11 rfl b31 c31 rfl
    clear H11
    clear b31 c31
    have b34 : B w31 g6 49 ([a_25, b_25]) := Hold.blk H12 11 rfl
    have b35 : B w31 g4 49 ([a_7, b_7]) := Hold.blk H12 5 rfl
    obtain ⟨_, R38⟩ : ∃ F, Kd.R u8 w31 F a_25 ((dbD xs ps).1) := Hold.row H12 9 rfl
    obtain ⟨_, R39⟩ : ∃ F, Kd.R kW w31 F b_25 ((dbD xs ps).2) := Hold.row H12 10 rfl
    obtain ⟨_, R40⟩ : ∃ F, Kd.R u8 w31 F a_7 ((dbD xs ps).1) := Hold.row H12 3 rfl
    obtain ⟨_, R41⟩ : ∃ F, Kd.R kW w31 F b_7 ((dbD xs ps).2) := Hold.row H12 4 rfl
    refine re (sq (sq (rg (r (lab [a_25, b_25] Try.underlying49 rfl ti49 rfl b34 rfl rfl) (r (lab [a_7, b_7] Try.underlying49 rfl ti49 z4 b35 rfl rfl) (cl go41 (eqDisk R38 R39 R40 R41 (by first | assumption | omega | (simp; omega)) (by first | assumption | omega | (simp; omega)) (by assumption)) (ac rfl (ac rfl an)) ?_))))))
    rintro r wq36 ⟨rfl, cq36⟩
    have H13 : Hold w [] wq36 [rB g1 74 ([v, u]), rR u8 5 a_5 xs, rR kW 112 b_5 ps, rR u8 5 a_7 ((dbD xs ps).1), rR kW 112 b_7 ((dbD xs ps).2), rB g4 49 ([a_7, b_7]), rR u8 5 a_17 xs, rR kW 112 b_17 ps, rB g5 49 ([a_17, b_17]), rR u8 5 a_25 ((dbD xs ps).1), rR kW 112 b_25 ((dbD xs ps).2), rB g6 49 ([a_25, b_25])] := Hold.t H12 cq36
    clear H12
    clear cq36
    refine r (nt rfl) (re ?_)
    refine cf ((rfl : _ = Value.bool (!(decide (((dbD xs ps).1, (dbD xs ps).2) = ((dbD xs ps).1, (dbD xs ps).2))))).trans (congrArg Value.bool (show (!(decide (((dbD xs ps).1, (dbD xs ps).2) = ((dbD xs ps).1, (dbD xs ps).2)))) = false from (by rw [decide_eq_true rfl]; rfl)))) ?_
    refine sk (sq (sq ?_))
    refine gen (fun ρ => ρ 1 = .pointer (some ⟨g1, 0, none⟩) ∧ ρ 2 = .bool false ∧ ρ 4 = .pointer (some ⟨g4, 0, none⟩) ∧ ρ 5 = .pointer (some ⟨g5, 0, none⟩) ∧ ρ 6 = .pointer (some ⟨g6, 0, none⟩) ∧ True) ⟨z1, z2, z4, rfl, rfl, trivial⟩ ?_
    rintro ρ ⟨z1, z2, z4, z5, z6, -⟩
    refine rde mixed ?_
    intro w42 c42
    have H14 : Hold w [] w42 [rB g1 74 ([v, u]), rR u8 5 a_5 xs, rR kW 112 b_5 ps, rR u8 5 a_7 ((dbD xs ps).1), rR kW 112 b_7 ((dbD xs ps).2), rB g4 49 ([a_7, b_7]), rR u8 5 a_17 xs, rR kW 112 b_17 ps, rB g5 49 ([a_17, b_17]), rR u8 5 a_25 ((dbD xs ps).1), rR kW 112 b_25 ((dbD xs ps).2), rB g6 49 ([a_25, b_25])] := Hold.t H13 c42
    clear H13
    clear c42
    have H43d0 : Hold w42 [] w42 [] := Hold.start w42
    refine ⟨fun w' => Ch [] w42 w', Ch.refl _ _, ?_⟩
    have b44 : B w42 g5 49 ([a_17, b_17]) := Hold.blk H14 8 rfl
    have b45 : B w42 g1 74 ([v, u]) := Hold.blk H14 0 rfl
    refine edt 0 rfl (by kernel_rfl) (fun w' hS => lab [a_17, b_17] Try.underlying49 rfl ti49 z5 (hS.b0 b44) rfl rfl) (edt 1 rfl (by kernel_rfl) (fun w' hS => lab [v, u] Try.underlying74 rfl ti74 z1 (hS.b0 b45) rfl rfl) (ed1 2 (by kernel_rfl) <| euc rfl go58 (ac rfl an) (toDisk_H ((hx.t (Hold.ch H14)).t (Hold.ch H43d0)) ((hp.t (Hold.ch H14)).t (Hold.ch H43d0)) (by first | assumption | omega | (simp; omega)) (by first | assumption | omega | (simp; omega)) (by assumption)) ?_))
    rintro r wt46 ⟨a_46, b_46, rfl, Ht46⟩
    have H15d : Hold w42 [] wt46 [rR u8 5 a_46 xs, rR kW 112 b_46 ps] := Hold.news H43d0 Ht46
    clear H43d0
    clear Ht46
    refine ⟨.inr (Hold.ch H15d), ?_⟩
    obtain ⟨_, R50⟩ : ∃ F, Kd.R u8 w42 F a_17 xs := Hold.row H14 6 rfl
    obtain ⟨_, R51⟩ : ∃ F, Kd.R kW w42 F b_17 ps := Hold.row H14 7 rfl
    obtain ⟨_, R52⟩ : ∃ F, Kd.R u8 wt46 F a_46 xs := Hold.row H15d 0 rfl
    obtain ⟨_, R53⟩ : ∃ F, Kd.R kW wt46 F b_46 ps := Hold.row H15d 1 rfl
    refine ed1 3 (by kernel_rfl) <| euc rfl go41 (ac rfl (ac rfl an)) (eqDisk (R50.t (Hold.ch H15d)) (R51.t (Hold.ch H15d)) R52 R53 (by first | assumption | omega | (simp; omega)) (by first | assumption | omega | (simp; omega)) (by assumption)) ?_
    rintro r wq48 ⟨rfl, cq48⟩
    have H16d : Hold w42 [] wq48 [rR u8 5 a_46 xs, rR kW 112 b_46 ps] := Hold.t H15d cq48
    clear H15d
    clear cq48
    refine ⟨.inr (Hold.ch H16d), ?_⟩
    have H17 : Hold w [] wq48 [rB g1 74 ([v, u]), rR u8 5 a_5 xs, rR kW 112 b_5 ps, rR u8 5 a_7 ((dbD xs ps).1), rR kW 112 b_7 ((dbD xs ps).2), rB g4 49 ([a_7, b_7]), rR u8 5 a_17 xs, rR kW 112 b_17 ps, rB g5 49 ([a_17, b_17]), rR u8 5 a_25 ((dbD xs ps).1), rR kW 112 b_25 ((dbD xs ps).2), rB g6 49 ([a_25, b_25]), rR u8 5 a_46 xs, rR kW 112 b_46 ps] := Hold.news H14 H16d
    clear H16d H14
    refine ed1 4 (by kernel_rfl) <| eur rfl (nt rfl) (.inl (by kernel_rfl)) ?_
    refine edd (by kernel_rfl) ?_
    refine cf ((rfl : _ = Value.bool (!(decide ((xs, ps) = (xs, ps))))).trans (congrArg Value.bool (show (!(decide ((xs, ps) = (xs, ps)))) = false from (by rw [decide_eq_true rfl]; rfl)))) ?_
    have b54 : B wq48 g5 49 ([a_17, b_17]) := Hold.blk H17 8 rfl
    have H18 : Hold w [] wq48 [rR u8 5 a_17 xs, rR kW 112 b_17 ps, rB g1 74 ([v, u]), rR u8 5 a_5 xs, rR kW 112 b_5 ps, rR u8 5 a_7 ((dbD xs ps).1), rR kW 112 b_7 ((dbD xs ps).2), rB g4 49 ([a_7, b_7]), rB g5 49 ([a_17, b_17]), rR u8 5 a_25 ((dbD xs ps).1), rR kW 112 b_25 ((dbD xs ps).2), rB g6 49 ([a_25, b_25]), rR u8 5 a_46 xs, rR kW 112 b_46 ps] := Hold.re H17 [6, 7, 0, 1, 2, 3, 4, 5, 8, 9, 10, 11, 12, 13] (by kernel_rfl) (by rfl)
    clear H17
    obtain ⟨F56, hF56, n56, s56, K56⟩ := Hold.front (Γ := [rR u8 5 a_17 xs, rR kW 112 b_17 ps]) (Δ := [rB g1 74 ([v, u]), rR u8 5 a_5 xs, rR kW 112 b_5 ps, rR u8 5 a_7 ((dbD xs ps).1), rR kW 112 b_7 ((dbD xs ps).2), rB g4 49 ([a_7, b_7]), rB g5 49 ([a_17, b_17]), rR u8 5 a_25 ((dbD xs ps).1), rR kW 112 b_25 ((dbD xs ps).2), rB g6 49 ([a_25, b_25]), rR u8 5 a_46 xs, rR kW 112 b_46 ps]) H18
    refine sk (sq (rg (r (sa rfl) (re (sq (rg (r (lab [a_17, b_17] Try.underlying49 rfl ti49 z5 b54 rfl rfl) (r (mv rfl) (cl go42 (markDisk_H hF56 n56 (by omega) (by first | assumption | omega | (simp; omega)) (by first | assumption | omega)) (ac rfl (ac rfl an)) ?_)))))))))
    rintro r wm55 ⟨rfl, Hm55⟩
    have H19 : Hold w [] wm55 [rR u8 5 a_17 (marks 1 xs.length), rR kW 112 b_17 (mkW (1 + xs.length) ps), rB g1 74 ([v, u]), rR u8 5 a_5 xs, rR kW 112 b_5 ps, rR u8 5 a_7 ((dbD xs ps).1), rR kW 112 b_7 ((dbD xs ps).2), rB g4 49 ([a_7, b_7]), rB g5 49 ([a_17, b_17]), rR u8 5 a_25 ((dbD xs ps).1), rR kW 112 b_25 ((dbD xs ps).2), rB g6 49 ([a_25, b_25]), rR u8 5 a_46 xs, rR kW 112 b_46 ps] := Hold.call K56 Hm55
    clear H18
    clear K56 hF56 n56 s56
    clear Hm55
    refine r (sa rfl) (re (sq (sq ?_)))
    refine gen (fun ρ => ρ 1 = .pointer (some ⟨g1, 0, none⟩) ∧ ρ 2 = .bool false ∧ ρ 4 = .pointer (some ⟨g4, 0, none⟩) ∧ ρ 6 = .pointer (some ⟨g6, 0, none⟩) ∧ ρ 7 = .int .i64 (1 + (xs.length : Int) + (szW ps : Int)) ∧ True) ⟨z1, z2, z4, z6, rfl, trivial⟩ ?_
    rintro ρ ⟨z1, z2, z4, z6, z7, -⟩
    refine rg (r (mv z7) (r (bi rfl rfl rfl) (r (mv rfl) ?_)))
    refine spf 37 rfl (show (decide ((1 + (xs.length : Int) + (szW ps : Int)) < 0)) = false from (decide_eq_false (by omega))) ?_
    have b57 : B wm55 g6 49 ([a_25, b_25]) := Hold.blk H19 11 rfl
    have b58 : B wm55 g4 49 ([a_7, b_7]) := Hold.blk H19 7 rfl
    obtain ⟨_, R61⟩ : ∃ F, Kd.R u8 wm55 F a_25 ((dbD xs ps).1) := Hold.row H19 9 rfl
    obtain ⟨_, R62⟩ : ∃ F, Kd.R kW wm55 F b_25 ((dbD xs ps).2) := Hold.row H19 10 rfl
    obtain ⟨_, R63⟩ : ∃ F, Kd.R u8 wm55 F a_7 ((dbD xs ps).1) := Hold.row H19 5 rfl
    obtain ⟨_, R64⟩ : ∃ F, Kd.R kW wm55 F b_7 ((dbD xs ps).2) := Hold.row H19 6 rfl
    refine gy rfl rfl rfl (r (lab [a_25, b_25] Try.underlying49 rfl ti49 z6 b57 rfl rfl) (gy rfl rfl rfl (r (lab [a_7, b_7] Try.underlying49 rfl ti49 z4 b58 rfl rfl) (gy rfl rfl rfl (cl go41 (eqDisk R61 R62 R63 R64 (by first | assumption | omega | (simp; omega)) (by first | assumption | omega | (simp; omega)) (by assumption)) (ac rfl (ac rfl an)) ?_)))))
    rintro r wq59 ⟨rfl, cq59⟩
    have H20 : Hold w [] wq59 [rR u8 5 a_17 (marks 1 xs.length), rR kW 112 b_17 (mkW (1 + xs.length) ps), rB g1 74 ([v, u]), rR u8 5 a_5 xs, rR kW 112 b_5 ps, rR u8 5 a_7 ((dbD xs ps).1), rR kW 112 b_7 ((dbD xs ps).2), rB g4 49 ([a_7, b_7]), rB g5 49 ([a_17, b_17]), rR u8 5 a_25 ((dbD xs ps).1), rR kW 112 b_25 ((dbD xs ps).2), rB g6 49 ([a_25, b_25]), rR u8 5 a_46 xs, rR kW 112 b_46 ps] := Hold.t H19 cq59
    clear H19
    clear cq59
    refine gy rfl rfl rfl (r (nt rfl) (r (pk rfl rfl) (re ?_)))
    refine cf ((rfl : _ = Value.bool (!(decide (((dbD xs ps).1, (dbD xs ps).2) = ((dbD xs ps).1, (dbD xs ps).2))))).trans (congrArg Value.bool (show (!(decide (((dbD xs ps).1, (dbD xs ps).2) = ((dbD xs ps).1, (dbD xs ps).2)))) = false from (by rw [decide_eq_true rfl]; rfl)))) ?_
    have b65 : B wq59 g6 49 ([a_25, b_25]) := Hold.blk H20 11 rfl
    have H21 : Hold w [] wq59 [rR u8 5 a_25 ((dbD xs ps).1), rR kW 112 b_25 ((dbD xs ps).2), rR u8 5 a_17 (marks 1 xs.length), rR kW 112 b_17 (mkW (1 + xs.length) ps), rB g1 74 ([v, u]), rR u8 5 a_5 xs, rR kW 112 b_5 ps, rR u8 5 a_7 ((dbD xs ps).1), rR kW 112 b_7 ((dbD xs ps).2), rB g4 49 ([a_7, b_7]), rB g5 49 ([a_17, b_17]), rB g6 49 ([a_25, b_25]), rR u8 5 a_46 xs, rR kW 112 b_46 ps] := Hold.re H20 [9, 10, 0, 1, 2, 3, 4, 5, 6, 7, 8, 11, 12, 13] (by kernel_rfl) (by rfl)
    clear H20
    obtain ⟨F67, hF67, n67, s67, K67⟩ := Hold.front (Γ := [rR u8 5 a_25 ((dbD xs ps).1), rR kW 112 b_25 ((dbD xs ps).2)]) (Δ := [rR u8 5 a_17 (marks 1 xs.length), rR kW 112 b_17 (mkW (1 + xs.length) ps), rB g1 74 ([v, u]), rR u8 5 a_5 xs, rR kW 112 b_5 ps, rR u8 5 a_7 ((dbD xs ps).1), rR kW 112 b_7 ((dbD xs ps).2), rB g4 49 ([a_7, b_7]), rB g5 49 ([a_17, b_17]), rB g6 49 ([a_25, b_25]), rR u8 5 a_46 xs, rR kW 112 b_46 ps]) H21
    refine sk (sq (rg (r (sa rfl) (re (sq (rg (r (lab [a_25, b_25] Try.underlying49 rfl ti49 z6 b65 rfl rfl) (r (mv rfl) (cl go42 (markDisk_H hF67 n67 (by omega) (by first | assumption | omega | (simp; omega)) (by first | assumption | omega)) (ac rfl (ac rfl an)) ?_)))))))))
    rintro r wm66 ⟨rfl, Hm66⟩
    have H22 : Hold w [] wm66 [rR u8 5 a_25 (marks 1 ((dbD xs ps).1).length), rR kW 112 b_25 (mkW (1 + ((dbD xs ps).1).length) ((dbD xs ps).2)), rR u8 5 a_17 (marks 1 xs.length), rR kW 112 b_17 (mkW (1 + xs.length) ps), rB g1 74 ([v, u]), rR u8 5 a_5 xs, rR kW 112 b_5 ps, rR u8 5 a_7 ((dbD xs ps).1), rR kW 112 b_7 ((dbD xs ps).2), rB g4 49 ([a_7, b_7]), rB g5 49 ([a_17, b_17]), rB g6 49 ([a_25, b_25]), rR u8 5 a_46 xs, rR kW 112 b_46 ps] := Hold.call K67 Hm66
    clear H21
    clear K67 hF67 n67 s67
    clear Hm66
    refine r (sa rfl) (re (sq ?_))
    refine gen (fun ρ => ρ 1 = .pointer (some ⟨g1, 0, none⟩) ∧ ρ 2 = .bool false ∧ ρ 4 = .pointer (some ⟨g4, 0, none⟩) ∧ ρ 6 = .pointer (some ⟨g6, 0, none⟩) ∧ ρ 8 = .int .i64 (1 + (((dbD xs ps).1).length : Int) + (szW ((dbD xs ps).2) : Int)) ∧ True) ⟨z1, z2, z4, z6, rfl, trivial⟩ ?_
    rintro ρ ⟨z1, z2, z4, z6, z8, -⟩
    have b68 : B wm66 g6 49 ([a_25, b_25]) := Hold.blk H22 11 rfl
    obtain ⟨_, R71⟩ : ∃ F, Kd.R u8 wm66 F a_25 (marks 1 ((dbD xs ps).1).length) := Hold.row H22 0 rfl
    obtain ⟨_, R72⟩ : ∃ F, Kd.R kW wm66 F b_25 (mkW (1 + ((dbD xs ps).1).length) ((dbD xs ps).2)) := Hold.row H22 1 rfl
    refine rg (r (sa rfl) (re (sq (rg (r (lab [a_25, b_25] Try.underlying49 rfl ti49 z6 b68 rfl rfl) (r (mv rfl) (cl go43 (heldDisk (n := ((dbD xs ps).1).length) (ps := ((dbD xs ps).2)) R71 R72 (by omega) (by first | assumption | omega | (simp; omega)) (by first | assumption | omega)) (ac rfl (ac rfl an)) ?_)))))))
    rintro r wh69 ⟨rfl, ch69⟩
    have H23 : Hold w [] wh69 [rR u8 5 a_25 (marks 1 ((dbD xs ps).1).length), rR kW 112 b_25 (mkW (1 + ((dbD xs ps).1).length) ((dbD xs ps).2)), rR u8 5 a_17 (marks 1 xs.length), rR kW 112 b_17 (mkW (1 + xs.length) ps), rB g1 74 ([v, u]), rR u8 5 a_5 xs, rR kW 112 b_5 ps, rR u8 5 a_7 ((dbD xs ps).1), rR kW 112 b_7 ((dbD xs ps).2), rB g4 49 ([a_7, b_7]), rB g5 49 ([a_17, b_17]), rB g6 49 ([a_25, b_25]), rR u8 5 a_46 xs, rR kW 112 b_46 ps] := Hold.t H22 ch69
    clear H22
    clear ch69
    refine r (sa rfl) (re (sq (sq (rg (r (mv rfl) (r (bi rfl rfl rfl) (re ?_)))))))
    refine cf ((rfl : _ = Value.bool (decide ((1 + ((((dbD xs ps).1).length : Nat) : Int) + (szW ((dbD xs ps).2) : Int)) < 0))).trans (congrArg Value.bool (show (decide ((1 + ((((dbD xs ps).1).length : Nat) : Int) + (szW ((dbD xs ps).2) : Int)) < 0)) = false from (decide_eq_false (by omega))))) ?_
    refine sk (sq (sq (rg (r (mv rfl) (r (mv z8) (r (bi rfl rfl rfl) (re ?_)))))))
    refine cf ((rfl : _ = Value.bool (!decide ((1 + ((((dbD xs ps).1).length : Nat) : Int) + (szW ((dbD xs ps).2) : Int)) = (1 + (((dbD xs ps).1).length : Int) + (szW ((dbD xs ps).2) : Int))))).trans (congrArg Value.bool (show (!decide ((1 + ((((dbD xs ps).1).length : Nat) : Int) + (szW ((dbD xs ps).2) : Int)) = (1 + (((dbD xs ps).1).length : Int) + (szW ((dbD xs ps).2) : Int)))) = false from (by rw [decide_eq_true (by omega)]; rfl)))) ?_
    refine sk (sq ?_)
    refine gen (fun ρ => ρ 1 = .pointer (some ⟨g1, 0, none⟩) ∧ ρ 2 = .bool false ∧ ρ 4 = .pointer (some ⟨g4, 0, none⟩) ∧ True) ⟨z1, z2, z4, trivial⟩ ?_
    rintro ρ ⟨z1, z2, z4, -⟩
    have b73 : B wh69 g1 74 ([v, u]) := Hold.blk H23 4 rfl
    refine rg (r (lab [v, u] Try.underlying74 rfl ti74 z1 b73 rfl rfl) (cl go58 (toDisk_H (hx.t (Hold.ch H23)) (hp.t (Hold.ch H23)) (by first | assumption | omega | (simp; omega)) (by first | assumption | omega | (simp; omega)) (by assumption)) (ac rfl an) ?_))
    rintro r wt74 ⟨a_74, b_74, rfl, Ht74⟩
    have H24 : Hold w [] wt74 [rR u8 5 a_25 (marks 1 ((dbD xs ps).1).length), rR kW 112 b_25 (mkW (1 + ((dbD xs ps).1).length) ((dbD xs ps).2)), rR u8 5 a_17 (marks 1 xs.length), rR kW 112 b_17 (mkW (1 + xs.length) ps), rB g1 74 ([v, u]), rR u8 5 a_5 xs, rR kW 112 b_5 ps, rR u8 5 a_7 ((dbD xs ps).1), rR kW 112 b_7 ((dbD xs ps).2), rB g4 49 ([a_7, b_7]), rB g5 49 ([a_17, b_17]), rB g6 49 ([a_25, b_25]), rR u8 5 a_46 xs, rR kW 112 b_46 ps, rR u8 5 a_74 xs, rR kW 112 b_74 ps] := Hold.news H23 Ht74
    clear H23
    clear Ht74
    obtain ⟨_, R78⟩ : ∃ F, Kd.R u8 wt74 F a_74 xs := Hold.row H24 14 rfl
    obtain ⟨_, R79⟩ : ∃ F, Kd.R kW wt74 F b_74 ps := Hold.row H24 15 rfl
    refine cl go85 (impl_DiskBarrier R78 R79 lx hlp lxx) (ac rfl an) ?_
    rintro r wD76 ⟨a_76, b_76, rfl, HD76⟩
    have H25 : Hold w [] wD76 [rR u8 5 a_25 (marks 1 ((dbD xs ps).1).length), rR kW 112 b_25 (mkW (1 + ((dbD xs ps).1).length) ((dbD xs ps).2)), rR u8 5 a_17 (marks 1 xs.length), rR kW 112 b_17 (mkW (1 + xs.length) ps), rB g1 74 ([v, u]), rR u8 5 a_5 xs, rR kW 112 b_5 ps, rR u8 5 a_7 ((dbD xs ps).1), rR kW 112 b_7 ((dbD xs ps).2), rB g4 49 ([a_7, b_7]), rB g5 49 ([a_17, b_17]), rB g6 49 ([a_25, b_25]), rR u8 5 a_46 xs, rR kW 112 b_46 ps, rR u8 5 a_74 xs, rR kW 112 b_74 ps, rR u8 5 a_76 ((dbD xs ps).1), rR kW 112 b_76 ((dbD xs ps).2)] := Hold.news H24 HD76
    clear H24
    clear HD76
    refine ef (xal ti49) ?_
    rintro _ w80 ⟨g10, e80, rfl, -, b80, c80⟩
    have H26 : Hold w [] w80 [rR u8 5 a_25 (marks 1 ((dbD xs ps).1).length), rR kW 112 b_25 (mkW (1 + ((dbD xs ps).1).length) ((dbD xs ps).2)), rR u8 5 a_17 (marks 1 xs.length), rR kW 112 b_17 (mkW (1 + xs.length) ps), rB g1 74 ([v, u]), rR u8 5 a_5 xs, rR kW 112 b_5 ps, rR u8 5 a_7 ((dbD xs ps).1), rR kW 112 b_7 ((dbD xs ps).2), rB g4 49 ([a_7, b_7]), rB g5 49 ([a_17, b_17]), rB g6 49 ([a_25, b_25]), rR u8 5 a_46 xs, rR kW 112 b_46 ps, rR u8 5 a_74 xs, rR kW 112 b_74 ps, rR u8 5 a_76 ((dbD xs ps).1), rR kW 112 b_76 ((dbD xs ps).2), rB g10 49 ([.slice none 0 0, .slice none 0 0])] := Hold.newB H25 e80 b80 c80
    clear H25
    clear e80 b80 c80
    have b81 : B w80 g10 49 ([.slice none 0 0, .slice none 0 0]) := Hold.blk H26 18 rfl
    obtain ⟨_, R83⟩ : ∃ F, Kd.R kW w80 F b_76 ((dbD xs ps).2) := Hold.row H26 17 rfl
    obtain ⟨_, R84⟩ : ∃ F, Kd.R u8 w80 F a_76 ((dbD xs ps).1) := Hold.row H26 16 rfl
    refine ef0 (xst (vs := [a_76, b_76]) ti49 rfl rfl rfl b81 rfl (Nat.le_of_ble_eq_true rfl) (oc (R84).oneCell (oc (R83).oneCell on))) ?_
    rintro w82 ⟨-, b82, c82⟩
    have H27 : Hold w [] w82 [rR u8 5 a_25 (marks 1 ((dbD xs ps).1).length), rR kW 112 b_25 (mkW (1 + ((dbD xs ps).1).length) ((dbD xs ps).2)), rR u8 5 a_17 (marks 1 xs.length), rR kW 112 b_17 (mkW (1 + xs.length) ps), rB g1 74 ([v, u]), rR u8 5 a_5 xs, rR kW 112 b_5 ps, rR u8 5 a_7 ((dbD xs ps).1), rR kW 112 b_7 ((dbD xs ps).2), rB g4 49 ([a_7, b_7]), rB g5 49 ([a_17, b_17]), rB g6 49 ([a_25, b_25]), rR u8 5 a_46 xs, rR kW 112 b_46 ps, rR u8 5 a_74 xs, rR kW 112 b_74 ps, rR u8 5 a_76 ((dbD xs ps).1), rR kW 112 b_76 ((dbD xs ps).2), rB g10 49 ([a_76, b_76])] := Hold.setB H26 18 rfl b82 c82 rfl
    clear H26
    clear b82 c82
    have b85 : B w82 g10 49 ([a_76, b_76]) := Hold.blk H27 18 rfl
    have b86 : B w82 g4 49 ([a_7, b_7]) := Hold.blk H27 9 rfl
    obtain ⟨_, R89⟩ : ∃ F, Kd.R u8 w82 F a_76 ((dbD xs ps).1) := Hold.row H27 16 rfl
    obtain ⟨_, R90⟩ : ∃ F, Kd.R kW w82 F b_76 ((dbD xs ps).2) := Hold.row H27 17 rfl
    obtain ⟨_, R91⟩ : ∃ F, Kd.R u8 w82 F a_7 ((dbD xs ps).1) := Hold.row H27 7 rfl
    obtain ⟨_, R92⟩ : ∃ F, Kd.R kW w82 F b_7 ((dbD xs ps).2) := Hold.row H27 8 rfl
    refine re (sq (sq (rg (r (lab [a_76, b_76] Try.underlying49 rfl ti49 rfl b85 rfl rfl) (r (lab [a_7, b_7] Try.underlying49 rfl ti49 z4 b86 rfl rfl) (cl go41 (eqDisk R89 R90 R91 R92 (by first | assumption | omega | (simp; omega)) (by first | assumption | omega | (simp; omega)) (by assumption)) (ac rfl (ac rfl an)) ?_))))))
    rintro r wq87 ⟨rfl, cq87⟩
    have H28 : Hold w [] wq87 [rR u8 5 a_25 (marks 1 ((dbD xs ps).1).length), rR kW 112 b_25 (mkW (1 + ((dbD xs ps).1).length) ((dbD xs ps).2)), rR u8 5 a_17 (marks 1 xs.length), rR kW 112 b_17 (mkW (1 + xs.length) ps), rB g1 74 ([v, u]), rR u8 5 a_5 xs, rR kW 112 b_5 ps, rR u8 5 a_7 ((dbD xs ps).1), rR kW 112 b_7 ((dbD xs ps).2), rB g4 49 ([a_7, b_7]), rB g5 49 ([a_17, b_17]), rB g6 49 ([a_25, b_25]), rR u8 5 a_46 xs, rR kW 112 b_46 ps, rR u8 5 a_74 xs, rR kW 112 b_74 ps, rR u8 5 a_76 ((dbD xs ps).1), rR kW 112 b_76 ((dbD xs ps).2), rB g10 49 ([a_76, b_76])] := Hold.t H27 cq87
    clear H27
    clear cq87
    refine r (nt rfl) (re ?_)
    refine cf ((rfl : _ = Value.bool (!(decide (((dbD xs ps).1, (dbD xs ps).2) = ((dbD xs ps).1, (dbD xs ps).2))))).trans (congrArg Value.bool (show (!(decide (((dbD xs ps).1, (dbD xs ps).2) = ((dbD xs ps).1, (dbD xs ps).2)))) = false from (by rw [decide_eq_true rfl]; rfl)))) ?_
    refine sk (sq (rg (r (sa rfl) (re (rt ?_)))))
    exact fin1 (v := .bool true) Try.results20 rfl ⟨rfl, Hold.ch H28⟩
end Go.Proofs.Ytgpcanjmgdmdhaa
