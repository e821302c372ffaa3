/-
  CONTRACTS 45: FormatDisk; THE LAW'S WALK. No condition.
-/
import Derived.Test.Ytgpcanjmgdmdhaa42
namespace Go.Proofs.Ytgpcanjmgdmdhaa
open Go Go.Eng
set_option maxRecDepth 100000
set_option maxHeartbeats 4000000
set_option linter.unusedVariables false
set_option linter.unusedSimpArgs false
theorem NewD_H {w w' : World} {r : Value} {D : Dsk} (h : NewD w w' r D) (c : Ch [] w w') : ∃ a b, r = .agg #[a, b] ∧ Hold w [] w' [rR u8 5 a D.1, rR kW 112 b D.2] := by
  obtain ⟨a, b, F, G, rfl, W1, W2, n1, n2, d, f1, f2⟩ := h
  exact ⟨a, b, rfl, F ++ G, ⟨F, G, rfl, W1, G, [], by simp, W2, rfl⟩, Turn.new (nodup_app.2 ⟨n1, n2, d⟩) (fun k hk => (List.mem_append.1 hk).elim (f1 k) (f2 k)) c⟩
theorem impl_NewDisk_H {w : World} {b : Int} : Ret Try.prog 40 #[.int .i64 b] w (fun r w' => ∃ x y, r = .agg #[x, y] ∧ Hold w [] w' [rR u8 5 x (zer b), rR kW 112 y ([] : List Wr)]) :=
  Calls.mono impl_NewDisk fun _ _ h => h.imp fun _ h => ⟨h.1, NewD_H h.2.1 h.2.2⟩
theorem l2Pad_G {w : World} {F : List Nat} {v : Value} {xs : List Int} {n : Nat} (hx : u8.R w F v xs) (lx : xs.length ≤ 1000000000) (hn : n ≤ 1000000000) : Ret Try.prog 97 #[v, .int .i64 (n : Int)] w (fun r w' => Hold w [] w' [rR u8 5 r (xs ++ List.replicate (n - xs.length) 0)]) :=
  Calls.mono (l2Pad hx lx hn) fun _ _ h => h.imp fun _ h => ⟨h.1, hold_new h.2.1 h.2.2⟩
theorem spec_EncHdr_H {w : World} {q s b : Int} (h : hdr q s b) : Ret Try.prog 33 #[.agg #[.int .i64 q, .int .i64 s, .int .i64 b]] w (fun r w' => Hold w [] w' [rR u8 5 r (encH q s b)]) := by
  rw [← show encHeader q s b = encH q s b from if_pos h]
  exact Calls.mono spec_EncodeHeader fun _ _ h => h.imp fun _ h => ⟨h.1, hold_new h.2.1 h.2.2⟩
theorem spec_Layout_g {w : World} {s b : Int} (hg : geo s b) : Ret Try.prog 29 #[.agg #[.int .i64 s, .int .i64 b]] w (fun r w' => r = .agg #[.int .i64 (s * b), .int .i64 (tabs s b), .int .i64 (logs s b), .int .i64 (logs s b + s * b), .int .i64 (s * b - 2 * b)] ∧ Ch [] w w') := by
  have h := @spec_Layout w s b
  rw [lay, if_pos hg] at h; exact h
theorem impl_Layout_g {w : World} {s b : Int} (hg : geo s b) : Ret Try.prog 31 #[.agg #[.int .i64 s, .int .i64 b]] w (fun r w' => r = .agg #[.int .i64 (s * b), .int .i64 (tabs s b), .int .i64 (logs s b), .int .i64 (logs s b + s * b), .int .i64 (s * b - 2 * b)] ∧ Ch [] w w') := by
  have h := @impl_Layout w s b
  rw [lay, if_pos hg] at h; exact h
/-- The blocks of the header that a new disk bears; of the whole disk. -/
def fmA (s b : Int) : Nat := (1 + tabs s b).toNat
def fmN (s b : Int) : Nat := (logs s b + s * b).toNat
def fmX (s b : Int) : List Int := List.replicate (fmA s b * 64) 0 ++ encH 1 s b ++ List.replicate (fmN s b * 64 - (fmA s b * 64 + 64)) 0
def fmtD (s b : Int) : Dsk := if geo s b then (fmX s b, []) else ([], [])
theorem fm_rng {s b : Int} (h : geo s b) : (1 + tabs s b = (fmA s b : Int)) ∧ (logs s b + s * b = (fmN s b : Int)) ∧ 1 ≤ fmA s b ∧ 2 * fmA s b ≤ fmN s b ∧ fmN s b ≤ 1200 := by
  have hm := geo_mul h
  have ht : 0 ≤ tabs s b ∧ tabs s b ≤ 33 := by unfold tabs; omega
  have hl : logs s b = 2 * (1 + tabs s b) := rfl
  unfold fmA fmN
  omega
theorem fm_hdr {s b : Int} (h : geo s b) : hdr 1 s b := by unfold geo at h; unfold hdr; omega
theorem fmX_len {s b : Int} (h : geo s b) : (fmX s b).length = fmN s b * 64 := by
  have := fm_rng h
  simp only [fmX, List.length_append, List.length_replicate, encH_len]; omega
theorem fmtD_sm {s b : Int} : Sm (fmtD s b) := by
  unfold fmtD; split
  · rename_i h; have := fm_rng h; exact Sm.of (by rw [fmX_len h]; omega) (by simp) (by simp)
  · exact Sm.nil
theorem fm_zer {s b : Int} (h : geo s b) : zer (logs s b + s * b) = List.replicate (fmN s b * 64) 0 := by
  have := fm_rng h
  rw [zer, if_pos (by omega)]; congr 1; omega
theorem fm_vd {s b : Int} (h : geo s b) : VD (List.replicate (fmN s b * 64) 0) [((fmA s b : Int), encH 1 s b)] := by
  have := fm_rng h
  have hb : blks (List.replicate (fmN s b * 64) 0) = fmN s b := by unfold blks; simp
  exact ⟨by simp, by rw [hb]; omega, by rw [hb]; omega, by simp, fun x hx => by rw [List.mem_singleton.1 hx, hb]; exact ⟨by simp, by simp only; omega, encH_len _ _ _⟩⟩
theorem fm_st {s b : Int} (h : geo s b) : stN (List.replicate (fmN s b * 64) 0) [((fmA s b : Int), encH 1 s b)] (fun _ => 64) 1 = fmX s b := by
  have := fm_rng h
  have hl := encH_len 1 s b
  show setl (List.replicate (fmN s b * 64) 0) ((fmA s b : Int), encH 1 s b) 64 = _
  simp only [setl, fmX, Int.toNat_natCast]
  rw [List.take_of_length_le (l := encH 1 s b) (by omega), hl, List.take_replicate, List.drop_replicate, Nat.min_eq_left (by omega)]
theorem spec_FormatDisk {w : World} {s b : Int} : Ret Try.prog 80 #[.agg #[.int .i64 s, .int .i64 b]] w (fun r w' => ∃ a c, r = .agg #[a, c] ∧ Hold w [] w' [rR u8 5 a (fmtD s b).1, rR kW 112 c (fmtD s b).2]) := by
  refine enter Try.func80 rfl Try.ntmps80 (by rfl) (by rfl) ?_
  have H0 : Hold w [] w [] := Hold.start w
  refine sq (rg (ef (xbx (t := 34) rfl rfl) ?_))
  rintro _ w1 ⟨g1, e1, rfl, -, b1, c1⟩
  have H1 : Hold w [] w1 [rB g1 34 ([.int .i64 s, .int .i64 b])] := Hold.newB H0 e1 b1 c1
  clear H0
  clear e1 b1 c1
  refine ef (xal ti49) ?_
  rintro _ w2 ⟨g2, e2, rfl, -, b2, c2⟩
  have H2 : Hold w [] w2 [rB g1 34 ([.int .i64 s, .int .i64 b]), rB g2 49 ([.slice none 0 0, .slice none 0 0])] := Hold.newB H1 e2 b2 c2
  clear H1
  clear e2 b2 c2
  have b3 : B w2 g1 34 ([.int .i64 s, .int .i64 b]) := Hold.blk H2 0 rfl
  refine re (sq (sq (rg (r (lab [.int .i64 s, .int .i64 b] Try.underlying34 rfl ti34 rfl b3 rfl rfl) (cl go93 (l3Good (s := s) (b := b)) (ac rfl an) ?_)))))
  rintro r wg ⟨rfl, cg⟩
  have H3 : Hold w [] wg [rB g1 34 ([.int .i64 s, .int .i64 b]), rB g2 49 ([.slice none 0 0, .slice none 0 0])] := Hold.t H2 cg
  clear H2
  clear cg
  refine r (nt rfl) (re ?_)
  refine cpn rfl (fun hg => ?_) (fun hg => ?_)
  · rw [show fmtD s b = ([], []) from if_neg hg]
    have H4 : Hold w [] wg [rB g1 34 ([.int .i64 s, .int .i64 b]), rB g2 49 ([.slice none 0 0, .slice none 0 0]), rR u8 5 (.slice none 0 0) ([])] := Hold.nilrow u8 5 H3
    clear H3
    have H5 : Hold w [] wg [rB g1 34 ([.int .i64 s, .int .i64 b]), rB g2 49 ([.slice none 0 0, .slice none 0 0]), rR u8 5 (.slice none 0 0) ([]), rR kW 112 (.slice none 0 0) ([])] := Hold.nilrow kW 112 H4
    clear H4
    have b5 : B wg g2 49 ([.slice none 0 0, .slice none 0 0]) := Hold.blk H5 1 rfl
    obtain ⟨_, R7⟩ : ∃ F, Kd.R u8 wg F (.slice none 0 0) ([]) := Hold.row H5 2 rfl
    refine sq (rg (r (bd (r := [.slice none 0 0, .slice none 0 0]) ti49 pl49 pn rfl) (ef0 (xst (vs := [.slice none 0 0, .slice none 0 0]) ti49 rfl rfl rfl b5 rfl (Nat.le_of_ble_eq_true rfl) (oc (R7).oneCell (oc (R7).oneCell on))) ?_)))
    rintro w6 ⟨-, b6, c6⟩
    have H6 : Hold w [] w6 [rB g1 34 ([.int .i64 s, .int .i64 b]), rB g2 49 ([.slice none 0 0, .slice none 0 0]), rR u8 5 (.slice none 0 0) ([]), rR kW 112 (.slice none 0 0) ([])] := Hold.setB H5 1 rfl b6 c6 rfl
    clear H5
    clear b6 c6
    refine re (rt ?_)
    have b8 : B w6 g2 49 ([.slice none 0 0, .slice none 0 0]) := Hold.blk H6 1 rfl
    have H7 : Hold w [] w6 [rR u8 5 (.slice none 0 0) ([]), rR kW 112 (.slice none 0 0) ([])] := (show Hold w [] w6 ([rR u8 5 (.slice none 0 0) ([]), rR kW 112 (.slice none 0 0) ([])] ++ [rB g1 34 ([.int .i64 s, .int .i64 b]), rB g2 49 ([.slice none 0 0, .slice none 0 0])]) from Hold.re H6 [2, 3, 0, 1] (by kernel_rfl) (by rfl)).drop
    clear H6
    exact finc  (cs := [.slice none 0 0, .slice none 0 0]) Try.results80 Try.underlying49 rfl ti49 rfl b8 rfl  ⟨_, _, rfl, H7⟩
  · have hg' : geo s b := by simpa using hg
    replace hg := hg'
    clear hg'
    obtain ⟨r1, r2, r3, r4, r5⟩ := fm_rng hg
    have hL := encH_len 1 s b
    rw [show fmtD s b = (fmX s b, []) from if_pos hg]
    have b5 : B wg g1 34 ([.int .i64 s, .int .i64 b]) := Hold.blk H3 0 rfl
    refine sk (sq (rg (r (lab [.int .i64 s, .int .i64 b] Try.underlying34 rfl ti34 rfl b5 rfl rfl) (cl go29 (spec_Layout_g hg) (ac rfl an) ?_))))
    rintro r wl ⟨rfl, cl⟩
    have H4 : Hold w [] wl [rB g1 34 ([.int .i64 s, .int .i64 b]), rB g2 49 ([.slice none 0 0, .slice none 0 0])] := Hold.t H3 cl
    clear H3
    clear cl
    refine ef (xal ti32) ?_
    rintro _ w7 ⟨g3, e7, rfl, -, b7, c7⟩
    have H5 : Hold w [] w7 [rB g1 34 ([.int .i64 s, .int .i64 b]), rB g2 49 ([.slice none 0 0, .slice none 0 0]), rB g3 32 ([.int .i64 0, .int .i64 0, .int .i64 0, .int .i64 0, .int .i64 0])] := Hold.newB H4 e7 b7 c7
    clear H4
    clear e7 b7 c7
    have b8 : B w7 g3 32 ([.int .i64 0, .int .i64 0, .int .i64 0, .int .i64 0, .int .i64 0]) := Hold.blk H5 2 rfl
    refine ef0 (xst (vs := [.int .i64 (s * b), .int .i64 (tabs s b), .int .i64 (logs s b), .int .i64 (logs s b + s * b), .int .i64 (s * b - 2 * b)]) ti32 rfl rfl rfl b8 rfl (Nat.le_of_ble_eq_true rfl) (one_all rfl)) ?_
    rintro w9 ⟨-, b9, c9⟩
    have H6 : Hold w [] w9 [rB g1 34 ([.int .i64 s, .int .i64 b]), rB g2 49 ([.slice none 0 0, .slice none 0 0]), rB g3 32 ([.int .i64 (s * b), .int .i64 (tabs s b), .int .i64 (logs s b), .int .i64 (logs s b + s * b), .int .i64 (s * b - 2 * b)])] := Hold.setB H5 2 rfl b9 c9 rfl
    clear H5
    clear b9 c9
    refine re (sq (rg (ef (xbs0 (dk := u8) Try.underlying40 ti5) ?_)))
    rintro v10 w10 N10
    have H7 : Hold w [] w10 [rB g1 34 ([.int .i64 s, .int .i64 b]), rB g2 49 ([.slice none 0 0, .slice none 0 0]), rB g3 32 ([.int .i64 (s * b), .int .i64 (tabs s b), .int .i64 (logs s b), .int .i64 (logs s b + s * b), .int .i64 (s * b - 2 * b)]), rR u8 5 v10 ([])] := Hold.newr H6 N10
    clear H6
    have b11 : B w10 g3 32 ([.int .i64 (s * b), .int .i64 (tabs s b), .int .i64 (logs s b), .int .i64 (logs s b + s * b), .int .i64 (s * b - 2 * b)]) := Hold.blk H7 2 rfl
    obtain ⟨_, R13⟩ : ∃ F, Kd.R u8 w10 F v10 ([]) := Hold.row H7 3 rfl
    refine r (fa Try.underlying32 rfl ti2 rfl rfl) (r (ldb Try.underlying2 rfl rfl b11 rfl) (r (ad (a := 1) (b := tabs s b) (((fmA s b : Nat) : Int)) rfl rfl (by omega)) (r (ml (a := ((fmA s b : Nat) : Int)) (b := 64) (((fmA s b * 64 : Nat) : Int)) rfl rfl (by omega)) (cl go97 (l2Pad_G (n := fmA s b * 64) R13 (by simp) (by omega)) (ac rfl (ac rfl an)) ?_))))
    rintro r1 wp Hp
    have H8 : Hold w [] wp [rB g1 34 ([.int .i64 s, .int .i64 b]), rB g2 49 ([.slice none 0 0, .slice none 0 0]), rB g3 32 ([.int .i64 (s * b), .int .i64 (tabs s b), .int .i64 (logs s b), .int .i64 (logs s b + s * b), .int .i64 (s * b - 2 * b)]), rR u8 5 v10 ([]), rR u8 5 r1 (([] : List Int) ++ List.replicate (fmA s b * 64 - ([] : List Int).length) 0)] := Hold.news H7 Hp
    clear H7
    clear Hp
    refine r (sa rfl) (re (sq ?_))
    refine gen (fun ρ => ρ 1 = .pointer (some ⟨g1, 0, none⟩) ∧ ρ 2 = .pointer (some ⟨g2, 0, none⟩) ∧ ρ 3 = .pointer (some ⟨g3, 0, none⟩) ∧ ρ 4 = r1 ∧ True) ⟨rfl, rfl, rfl, rfl, trivial⟩ ?_
    rintro ρ ⟨z1, z2, z3, z4, -⟩
    have b14 : B wp g1 34 ([.int .i64 s, .int .i64 b]) := Hold.blk H8 0 rfl
    refine rg (r (mv z4) (r (fa Try.underlying34 rfl ti2 rfl z1) (r (ldb Try.underlying2 rfl rfl b14 rfl) (r (fa Try.underlying34 rfl ti2 rfl z1) (r (ldb Try.underlying2 rfl rfl b14 rfl) (r (bd (r := [.int .i64 1, .int .i64 s, .int .i64 b]) ti42 pl42 (pc rfl (cel1 rfl) (pc rfl (cel1 rfl) (pc rfl (cel1 rfl) pn))) rfl) (cl go33 (spec_EncHdr_H (fm_hdr hg)) (ac rfl an) ?_)))))))
    rintro r2 we He
    have H9 : Hold w [] we [rB g1 34 ([.int .i64 s, .int .i64 b]), rB g2 49 ([.slice none 0 0, .slice none 0 0]), rB g3 32 ([.int .i64 (s * b), .int .i64 (tabs s b), .int .i64 (logs s b), .int .i64 (logs s b + s * b), .int .i64 (s * b - 2 * b)]), rR u8 5 v10 ([]), rR u8 5 r1 (([] : List Int) ++ List.replicate (fmA s b * 64 - ([] : List Int).length) 0), rR u8 5 r2 (encH 1 s b)] := Hold.news H8 He
    clear H8
    clear He
    obtain ⟨_, R17⟩ : ∃ F, Kd.R u8 we F r2 (encH 1 s b) := Hold.row H9 5 rfl
    obtain ⟨F18, P18, n18, s18, K18⟩ := Hold.pick H9 4 rfl
    replace P18 : Kd.W u8 5 we F18 r1 (([] : List Int) ++ List.replicate (fmA s b * 64 - ([] : List Int).length) 0) := P18
    refine ef (aps Try.underlying40 ti5 rfl (flat_int _) rfl rfl P18 (R17) n18 (by simp; omega)) ?_
    rintro v24_16 w16 ⟨F16, A16⟩
    have H10 : Hold w [] w16 [rB g1 34 ([.int .i64 s, .int .i64 b]), rB g2 49 ([.slice none 0 0, .slice none 0 0]), rB g3 32 ([.int .i64 (s * b), .int .i64 (tabs s b), .int .i64 (logs s b), .int .i64 (logs s b + s * b), .int .i64 (s * b - 2 * b)]), rR u8 5 v10 ([]), rR u8 5 v24_16 ((([] : List Int) ++ List.replicate (fmA s b * 64 - ([] : List Int).length) 0) ++ (encH 1 s b)), rR u8 5 r2 (encH 1 s b)] := Hold.apd K18 P18 A16 rfl
    clear H9
    clear A16 K18 P18 n18 s18
    have b19 : B w16 g3 32 ([.int .i64 (s * b), .int .i64 (tabs s b), .int .i64 (logs s b), .int .i64 (logs s b + s * b), .int .i64 (s * b - 2 * b)]) := Hold.blk H10 2 rfl
    obtain ⟨_, R21⟩ : ∃ F, Kd.R u8 w16 F v24_16 ((([] : List Int) ++ List.replicate (fmA s b * 64 - ([] : List Int).length) 0) ++ (encH 1 s b)) := Hold.row H10 4 rfl
    refine r (sa rfl) (re (sq (rg (r (mv rfl) (r (fa Try.underlying32 rfl ti2 rfl z3) (r (ldb Try.underlying2 rfl rfl b19 rfl) (r (ml (a := logs s b + s * b) (b := 64) (((fmN s b * 64 : Nat) : Int)) rfl rfl (by omega)) (cl go97 (l2Pad_G (n := fmN s b * 64) R21 (by simp; omega) (by omega)) (ac rfl (ac rfl an)) ?_))))))))
    rintro r3 wp2 Hp2
    have H11 : Hold w [] wp2 [rB g1 34 ([.int .i64 s, .int .i64 b]), rB g2 49 ([.slice none 0 0, .slice none 0 0]), rB g3 32 ([.int .i64 (s * b), .int .i64 (tabs s b), .int .i64 (logs s b), .int .i64 (logs s b + s * b), .int .i64 (s * b - 2 * b)]), rR u8 5 v10 ([]), rR u8 5 v24_16 ((([] : List Int) ++ List.replicate (fmA s b * 64 - ([] : List Int).length) 0) ++ (encH 1 s b)), rR u8 5 r2 (encH 1 s b), rR u8 5 r3 ((([] ++ List.replicate (fmA s b * 64 - ([] : List Int).length) 0) ++ encH 1 s b) ++ List.replicate (fmN s b * 64 - ((([] : List Int) ++ List.replicate (fmA s b * 64 - ([] : List Int).length) 0) ++ encH 1 s b).length) 0)] := Hold.news H10 Hp2
    clear H10
    clear Hp2
    obtain ⟨_, R22⟩ : ∃ F, Kd.R u8 wp2 F r3 ((([] ++ List.replicate (fmA s b * 64 - ([] : List Int).length) 0) ++ encH 1 s b) ++ List.replicate (fmN s b * 64 - ((([] : List Int) ++ List.replicate (fmA s b * 64 - ([] : List Int).length) 0) ++ encH 1 s b).length) 0) := Hold.row H11 6 rfl
    have b23 : B wp2 g2 49 ([.slice none 0 0, .slice none 0 0]) := Hold.blk H11 1 rfl
    refine r (bd (r := [r3, .slice none 0 0]) ti49 pl49 (pc rfl (cel1 (R22).oneCell) pn) rfl) (ef0 (xst (vs := [r3, .slice none 0 0]) ti49 z2 rfl rfl b23 rfl (Nat.le_of_ble_eq_true rfl) (oc (R22).oneCell (oc rfl on))) ?_)
    rintro w24 ⟨-, b24, c24⟩
    have H12 : Hold w [] w24 [rB g1 34 ([.int .i64 s, .int .i64 b]), rB g2 49 ([r3, .slice none 0 0]), rB g3 32 ([.int .i64 (s * b), .int .i64 (tabs s b), .int .i64 (logs s b), .int .i64 (logs s b + s * b), .int .i64 (s * b - 2 * b)]), rR u8 5 v10 ([]), rR u8 5 v24_16 ((([] : List Int) ++ List.replicate (fmA s b * 64 - ([] : List Int).length) 0) ++ (encH 1 s b)), rR u8 5 r2 (encH 1 s b), rR u8 5 r3 ((([] ++ List.replicate (fmA s b * 64 - ([] : List Int).length) 0) ++ encH 1 s b) ++ List.replicate (fmN s b * 64 - ((([] : List Int) ++ List.replicate (fmA s b * 64 - ([] : List Int).length) 0) ++ encH 1 s b).length) 0)] := Hold.setB H11 1 rfl b24 c24 rfl
    clear H11
    clear b24 c24
    refine re (rt ?_)
    have H13 : Hold w [] w24 [rB g1 34 ([.int .i64 s, .int .i64 b]), rB g2 49 ([r3, .slice none 0 0]), rB g3 32 ([.int .i64 (s * b), .int .i64 (tabs s b), .int .i64 (logs s b), .int .i64 (logs s b + s * b), .int .i64 (s * b - 2 * b)]), rR u8 5 v10 ([]), rR u8 5 v24_16 ((([] : List Int) ++ List.replicate (fmA s b * 64 - ([] : List Int).length) 0) ++ (encH 1 s b)), rR u8 5 r2 (encH 1 s b), rR u8 5 r3 ((([] ++ List.replicate (fmA s b * 64 - ([] : List Int).length) 0) ++ encH 1 s b) ++ List.replicate (fmN s b * 64 - ((([] : List Int) ++ List.replicate (fmA s b * 64 - ([] : List Int).length) 0) ++ encH 1 s b).length) 0), rR kW 112 (.slice none 0 0) ([])] := Hold.nilrow kW 112 H12
    clear H12
    have H14 : Hold w [] w24 [rR u8 5 r3 ((([] ++ List.replicate (fmA s b * 64 - ([] : List Int).length) 0) ++ encH 1 s b) ++ List.replicate (fmN s b * 64 - ((([] : List Int) ++ List.replicate (fmA s b * 64 - ([] : List Int).length) 0) ++ encH 1 s b).length) 0), rR kW 112 (.slice none 0 0) ([]), rB g2 49 ([r3, .slice none 0 0])] := (show Hold w [] w24 ([rR u8 5 r3 ((([] ++ List.replicate (fmA s b * 64 - ([] : List Int).length) 0) ++ encH 1 s b) ++ List.replicate (fmN s b * 64 - ((([] : List Int) ++ List.replicate (fmA s b * 64 - ([] : List Int).length) 0) ++ encH 1 s b).length) 0), rR kW 112 (.slice none 0 0) ([]), rB g2 49 ([r3, .slice none 0 0])] ++ [rB g1 34 ([.int .i64 s, .int .i64 b]), rB g3 32 ([.int .i64 (s * b), .int .i64 (tabs s b), .int .i64 (logs s b), .int .i64 (logs s b + s * b), .int .i64 (s * b - 2 * b)]), rR u8 5 v10 ([]), rR u8 5 v24_16 ((([] : List Int) ++ List.replicate (fmA s b * 64 - ([] : List Int).length) 0) ++ (encH 1 s b)), rR u8 5 r2 (encH 1 s b)]) from Hold.re H13 [6, 7, 1, 0, 2, 3, 4, 5] (by kernel_rfl) (by rfl)).drop
    clear H13
    have eX : (([] ++ List.replicate (fmA s b * 64 - ([] : List Int).length) 0) ++ encH 1 s b) ++ List.replicate (fmN s b * 64 - ((([] : List Int) ++ List.replicate (fmA s b * 64 - ([] : List Int).length) 0) ++ encH 1 s b).length) 0 = fmX s b := by
      rw [fmX]; simp [hL]
    have H15 : Hold w [] w24 [rR u8 5 r3 (fmX s b), rR kW 112 (.slice none 0 0) ([]), rB g2 49 ([r3, .slice none 0 0])] := (by rw [eX] at H14; exact H14)
    clear H14
    have b25 : B w24 g2 49 ([r3, .slice none 0 0]) := Hold.blk H15 2 rfl
    have H16 : Hold w [] w24 [rR u8 5 r3 (fmX s b), rR kW 112 (.slice none 0 0) ([])] := (show Hold w [] w24 ([rR u8 5 r3 (fmX s b), rR kW 112 (.slice none 0 0) ([])] ++ [rB g2 49 ([r3, .slice none 0 0])]) from Hold.re H15 [0, 1, 2] (by kernel_rfl) (by rfl)).drop
    clear H15
    exact finc  (cs := [r3, .slice none 0 0]) Try.results80 Try.underlying49 rfl ti49 z2 b25 rfl  ⟨_, _, rfl, H16⟩
theorem Places_region {w : World} {a c d e f k : Int} (h : 0 ≤ c ∧ c ≤ 1000 ∧ k = 1) : Ret Try.prog 134 #[.agg #[.int .i64 a, .int .i64 c, .int .i64 d, .int .i64 e, .int .i64 f], .int .i64 k] w (fun r w' => r = .int .i64 (1 + c) ∧ Ch [] w w') := by
  obtain ⟨h1, h2, rfl⟩ := h
  refine enter Try.func134 rfl Try.ntmps134 (by rfl) (by rfl) ?_
  have H0 : Hold w [] w [] := Hold.start w
  refine sq (rg (ef (xbx (t := 32) rfl rfl) ?_))
  rintro _ w1 ⟨g2, e1, rfl, -, b1, c1⟩
  have H1 : Hold w [] w1 [rB g2 32 ([.int .i64 a, .int .i64 c, .int .i64 d, .int .i64 e, .int .i64 f])] := Hold.newB H0 e1 b1 c1
  clear H0
  clear e1 b1 c1
  have b2 : B w1 g2 32 ([.int .i64 a, .int .i64 c, .int .i64 d, .int .i64 e, .int .i64 f]) := Hold.blk H1 0 rfl
  refine r (sa rfl) (re (sq (rg (r (mv rfl) (r (fa Try.underlying32 rfl ti2 rfl rfl) (r (ldb Try.underlying2 rfl rfl b2 rfl) (r (ad (a := 1) (b := c) (1 + c) rfl rfl (by omega)) (r (ml (a := 1) (b := 1 + c) (1 + c) rfl rfl (by omega)) (r (sa rfl) (re (rt ?_)))))))))))
  exact fin1 (v := .int .i64 (1 + c)) Try.results134 rfl ⟨rfl, Hold.ch H1⟩
theorem impl_FormatDisk {w : World} {s b : Int} : Ret Try.prog 81 #[.agg #[.int .i64 s, .int .i64 b]] w (fun r w' => ∃ a c, r = .agg #[a, c] ∧ Hold w [] w' [rR u8 5 a (fmtD s b).1, rR kW 112 c (fmtD s b).2]) := by
  refine enter Try.func81 rfl Try.ntmps81 (by rfl) (by rfl) ?_
  have H0 : Hold w [] w [] := Hold.start w
  refine sq (rg (ef (xbx (t := 34) rfl rfl) ?_))
  rintro _ w1 ⟨g1, e1, rfl, -, b1, c1⟩
  have H1 : Hold w [] w1 [rB g1 34 ([.int .i64 s, .int .i64 b])] := Hold.newB H0 e1 b1 c1
  clear H0
  clear e1 b1 c1
  refine ef (xal ti49) ?_
  rintro _ w2 ⟨g2, e2, rfl, -, b2, c2⟩
  have H2 : Hold w [] w2 [rB g1 34 ([.int .i64 s, .int .i64 b]), rB g2 49 ([.slice none 0 0, .slice none 0 0])] := Hold.newB H1 e2 b2 c2
  clear H1
  clear e2 b2 c2
  have b3 : B w2 g1 34 ([.int .i64 s, .int .i64 b]) := Hold.blk H2 0 rfl
  refine re (sq (sq (rg (r (lab [.int .i64 s, .int .i64 b] Try.underlying34 rfl ti34 rfl b3 rfl rfl) (cl go95 (valid (s := s) (b := b)) (ac rfl an) ?_)))))
  rintro r wg ⟨rfl, cg⟩
  have H3 : Hold w [] wg [rB g1 34 ([.int .i64 s, .int .i64 b]), rB g2 49 ([.slice none 0 0, .slice none 0 0])] := Hold.t H2 cg
  clear H2
  clear cg
  refine r (nt rfl) (re ?_)
  refine cpn rfl (fun hg => ?_) (fun hg => ?_)
  · rw [show fmtD s b = ([], []) from if_neg hg]
    have H4 : Hold w [] wg [rB g1 34 ([.int .i64 s, .int .i64 b]), rB g2 49 ([.slice none 0 0, .slice none 0 0]), rR u8 5 (.slice none 0 0) ([])] := Hold.nilrow u8 5 H3
    clear H3
    have H5 : Hold w [] wg [rB g1 34 ([.int .i64 s, .int .i64 b]), rB g2 49 ([.slice none 0 0, .slice none 0 0]), rR u8 5 (.slice none 0 0) ([]), rR kW 112 (.slice none 0 0) ([])] := Hold.nilrow kW 112 H4
    clear H4
    have b5 : B wg g2 49 ([.slice none 0 0, .slice none 0 0]) := Hold.blk H5 1 rfl
    obtain ⟨_, R7⟩ : ∃ F, Kd.R u8 wg F (.slice none 0 0) ([]) := Hold.row H5 2 rfl
    refine sq (rg (r (bd (r := [.slice none 0 0, .slice none 0 0]) ti49 pl49 pn rfl) (ef0 (xst (vs := [.slice none 0 0, .slice none 0 0]) ti49 rfl rfl rfl b5 rfl (Nat.le_of_ble_eq_true rfl) (oc (R7).oneCell (oc (R7).oneCell on))) ?_)))
    rintro w6 ⟨-, b6, c6⟩
    have H6 : Hold w [] w6 [rB g1 34 ([.int .i64 s, .int .i64 b]), rB g2 49 ([.slice none 0 0, .slice none 0 0]), rR u8 5 (.slice none 0 0) ([]), rR kW 112 (.slice none 0 0) ([])] := Hold.setB H5 1 rfl b6 c6 rfl
    clear H5
    clear b6 c6
    refine re (rt ?_)
    have b8 : B w6 g2 49 ([.slice none 0 0, .slice none 0 0]) := Hold.blk H6 1 rfl
    have H7 : Hold w [] w6 [rR u8 5 (.slice none 0 0) ([]), rR kW 112 (.slice none 0 0) ([])] := (show Hold w [] w6 ([rR u8 5 (.slice none 0 0) ([]), rR kW 112 (.slice none 0 0) ([])] ++ [rB g1 34 ([.int .i64 s, .int .i64 b]), rB g2 49 ([.slice none 0 0, .slice none 0 0])]) from Hold.re H6 [2, 3, 0, 1] (by kernel_rfl) (by rfl)).drop
    clear H6
    exact finc  (cs := [.slice none 0 0, .slice none 0 0]) Try.results81 Try.underlying49 rfl ti49 rfl b8 rfl  ⟨_, _, rfl, H7⟩
  · have hg' : geo s b := by simpa using hg
    replace hg := hg'
    clear hg'
    obtain ⟨r1, r2, r3, r4, r5⟩ := fm_rng hg
    have hL := encH_len 1 s b
    rw [show fmtD s b = (fmX s b, []) from if_pos hg]
    have hz := fm_zer hg
    have V := fm_vd hg
    have eS := fm_st hg
    have hXl := fmX_len hg
    have b5 : B wg g1 34 ([.int .i64 s, .int .i64 b]) := Hold.blk H3 0 rfl
    refine sk (sq (rg (r (lab [.int .i64 s, .int .i64 b] Try.underlying34 rfl ti34 rfl b5 rfl rfl) (cl go31 (impl_Layout_g hg) (ac rfl an) ?_))))
    rintro r wl ⟨rfl, cl⟩
    have H4 : Hold w [] wl [rB g1 34 ([.int .i64 s, .int .i64 b]), rB g2 49 ([.slice none 0 0, .slice none 0 0])] := Hold.t H3 cl
    clear H3
    clear cl
    refine ef (xal ti32) ?_
    rintro _ w7 ⟨g3, e7, rfl, -, b7, c7⟩
    have H5 : Hold w [] w7 [rB g1 34 ([.int .i64 s, .int .i64 b]), rB g2 49 ([.slice none 0 0, .slice none 0 0]), rB g3 32 ([.int .i64 0, .int .i64 0, .int .i64 0, .int .i64 0, .int .i64 0])] := Hold.newB H4 e7 b7 c7
    clear H4
    clear e7 b7 c7
    have b8 : B w7 g3 32 ([.int .i64 0, .int .i64 0, .int .i64 0, .int .i64 0, .int .i64 0]) := Hold.blk H5 2 rfl
    refine ef0 (xst (vs := [.int .i64 (s * b), .int .i64 (tabs s b), .int .i64 (logs s b), .int .i64 (logs s b + s * b), .int .i64 (s * b - 2 * b)]) ti32 rfl rfl rfl b8 rfl (Nat.le_of_ble_eq_true rfl) (one_all rfl)) ?_
    rintro w9 ⟨-, b9, c9⟩
    have H6 : Hold w [] w9 [rB g1 34 ([.int .i64 s, .int .i64 b]), rB g2 49 ([.slice none 0 0, .slice none 0 0]), rB g3 32 ([.int .i64 (s * b), .int .i64 (tabs s b), .int .i64 (logs s b), .int .i64 (logs s b + s * b), .int .i64 (s * b - 2 * b)])] := Hold.setB H5 2 rfl b9 c9 rfl
    clear H5
    clear b9 c9
    have b10 : B w9 g3 32 ([.int .i64 (s * b), .int .i64 (tabs s b), .int .i64 (logs s b), .int .i64 (logs s b + s * b), .int .i64 (s * b - 2 * b)]) := Hold.blk H6 2 rfl
    refine re (sq (rg (r (fa Try.underlying32 rfl ti2 rfl rfl) (r (ldb Try.underlying2 rfl rfl b10 rfl) (cl go40 (impl_NewDisk_H) (ac rfl an) ?_)))))
    rintro r wn ⟨x, y, rfl, Hn1⟩
    rw [hz] at Hn1
    have H7 : Hold w [] wn [rB g1 34 ([.int .i64 s, .int .i64 b]), rB g2 49 ([.slice none 0 0, .slice none 0 0]), rB g3 32 ([.int .i64 (s * b), .int .i64 (tabs s b), .int .i64 (logs s b), .int .i64 (logs s b + s * b), .int .i64 (s * b - 2 * b)]), rR u8 5 x (List.replicate (fmN s b * 64) 0), rR kW 112 y ([] : List Wr)] := Hold.news H6 Hn1
    clear H6
    clear Hn1
    obtain ⟨_, R13⟩ : ∃ F, Kd.R u8 wn F x (List.replicate (fmN s b * 64) 0) := Hold.row H7 3 rfl
    obtain ⟨_, R14⟩ : ∃ F, Kd.R kW wn F y ([] : List Wr) := Hold.row H7 4 rfl
    refine cl go131 (spin R13 R14 (by simp; omega) (by simp) (by simp)) (ac rfl an) ?_
    rintro r ws ⟨g, dv, wv, mg, rfl, Hs1⟩
    have H8 : Hold w [] ws [rB g1 34 ([.int .i64 s, .int .i64 b]), rB g2 49 ([.slice none 0 0, .slice none 0 0]), rB g3 32 ([.int .i64 (s * b), .int .i64 (tabs s b), .int .i64 (logs s b), .int .i64 (logs s b + s * b), .int .i64 (s * b - 2 * b)]), rR u8 5 x (List.replicate (fmN s b * 64) 0), rR kW 112 y ([] : List Wr), rB g 183 ([dv, wv, .map (some mg)]), rR u8 5 dv (List.replicate (fmN s b * 64) 0), rR kW 112 wv ([] : List Wr), rM mg (yng ([] : List Wr))] := Hold.news H7 Hs1
    clear H7
    clear Hs1
    refine r (sa rfl) (re (sq ?_))
    refine gen (fun ρ => ρ 1 = .pointer (some ⟨g1, 0, none⟩) ∧ ρ 2 = .pointer (some ⟨g2, 0, none⟩) ∧ ρ 3 = .pointer (some ⟨g3, 0, none⟩) ∧ ρ 4 = .pointer (some ⟨g, 0, none⟩) ∧ True) ⟨rfl, rfl, rfl, rfl, trivial⟩ ?_
    rintro ρ ⟨z1, z2, z3, z4, -⟩
    have b15 : B ws g1 34 ([.int .i64 s, .int .i64 b]) := Hold.blk H8 0 rfl
    refine rg (r (fa Try.underlying34 rfl ti2 rfl z1) (r (ldb Try.underlying2 rfl rfl b15 rfl) (r (fa Try.underlying34 rfl ti2 rfl z1) (r (ldb Try.underlying2 rfl rfl b15 rfl) (r (bd (r := [.int .i64 1, .int .i64 s, .int .i64 b]) ti42 pl42 (pc rfl (cel1 rfl) (pc rfl (cel1 rfl) (pc rfl (cel1 rfl) pn))) rfl) (cl go99 (Header_block (fm_hdr hg)) (ac rfl an) ?_))))))
    rintro r wh ⟨rfl, ch⟩
    have H9 : Hold w [] wh [rB g1 34 ([.int .i64 s, .int .i64 b]), rB g2 49 ([.slice none 0 0, .slice none 0 0]), rB g3 32 ([.int .i64 (s * b), .int .i64 (tabs s b), .int .i64 (logs s b), .int .i64 (logs s b + s * b), .int .i64 (s * b - 2 * b)]), rR u8 5 x (List.replicate (fmN s b * 64) 0), rR kW 112 y ([] : List Wr), rB g 183 ([dv, wv, .map (some mg)]), rR u8 5 dv (List.replicate (fmN s b * 64) 0), rR kW 112 wv ([] : List Wr), rM mg (yng ([] : List Wr))] := Hold.t H8 ch
    clear H8
    clear ch
    refine ef (xal ti121) ?_
    rintro _ w17 ⟨g5, e17, rfl, -, b17, c17⟩
    have H10 : Hold w [] w17 [rB g1 34 ([.int .i64 s, .int .i64 b]), rB g2 49 ([.slice none 0 0, .slice none 0 0]), rB g3 32 ([.int .i64 (s * b), .int .i64 (tabs s b), .int .i64 (logs s b), .int .i64 (logs s b + s * b), .int .i64 (s * b - 2 * b)]), rR u8 5 x (List.replicate (fmN s b * 64) 0), rR kW 112 y ([] : List Wr), rB g 183 ([dv, wv, .map (some mg)]), rR u8 5 dv (List.replicate (fmN s b * 64) 0), rR kW 112 wv ([] : List Wr), rM mg (yng ([] : List Wr)), rB g5 121 (byts (List.replicate 64 0))] := Hold.newB H9 e17 b17 c17
    clear H9
    clear e17 b17 c17
    have b18 : B w17 g5 121 (byts (List.replicate 64 0)) := Hold.blk H10 9 rfl
    refine ef0 (xsta ti121 rfl rfl hL b18 (by simp)) ?_
    rintro w19 ⟨-, b19, c19⟩
    have H11 : Hold w [] w19 [rB g1 34 ([.int .i64 s, .int .i64 b]), rB g2 49 ([.slice none 0 0, .slice none 0 0]), rB g3 32 ([.int .i64 (s * b), .int .i64 (tabs s b), .int .i64 (logs s b), .int .i64 (logs s b + s * b), .int .i64 (s * b - 2 * b)]), rR u8 5 x (List.replicate (fmN s b * 64) 0), rR kW 112 y ([] : List Wr), rB g 183 ([dv, wv, .map (some mg)]), rR u8 5 dv (List.replicate (fmN s b * 64) 0), rR kW 112 wv ([] : List Wr), rM mg (yng ([] : List Wr)), rB g5 121 (byts (encH 1 s b))] := Hold.setB H10 9 rfl b19 c19 rfl
    clear H10
    clear b19 c19
    refine re (sq ?_)
    refine rde mixed ?_
    intro w20 c20
    have H12 : Hold w [] w20 [rB g1 34 ([.int .i64 s, .int .i64 b]), rB g2 49 ([.slice none 0 0, .slice none 0 0]), rB g3 32 ([.int .i64 (s * b), .int .i64 (tabs s b), .int .i64 (logs s b), .int .i64 (logs s b + s * b), .int .i64 (s * b - 2 * b)]), rR u8 5 x (List.replicate (fmN s b * 64) 0), rR kW 112 y ([] : List Wr), rB g 183 ([dv, wv, .map (some mg)]), rR u8 5 dv (List.replicate (fmN s b * 64) 0), rR kW 112 wv ([] : List Wr), rM mg (yng ([] : List Wr)), rB g5 121 (byts (encH 1 s b))] := Hold.t H11 c20
    clear H11
    clear c20
    have H21d0 : Hold w20 [] w20 [] := Hold.start w20
    refine ⟨fun w' => Ch [] w20 w', Ch.refl _ _, ?_⟩
    have b22 : B w20 g3 32 ([.int .i64 (s * b), .int .i64 (tabs s b), .int .i64 (logs s b), .int .i64 (logs s b + s * b), .int .i64 (s * b - 2 * b)]) := Hold.blk H12 2 rfl
    refine edt 0 rfl (by kernel_rfl) (fun w' hS => mv z4) (edt 1 rfl (by kernel_rfl) (fun w' hS => lab [.int .i64 (s * b), .int .i64 (tabs s b), .int .i64 (logs s b), .int .i64 (logs s b + s * b), .int .i64 (s * b - 2 * b)] Try.underlying32 rfl ti32 z3 (hS.b0 b22) rfl rfl) (edt 3 rfl (by kernel_rfl) (fun w' hS => sla Try.underlying121 ti5 rfl) (ed1 2 (by kernel_rfl) <| euc rfl go134 (ac rfl (ac rfl an)) (Places_region (by omega)) ?_)))
    rintro r wr ⟨er, cr⟩
    rw [r1] at er
    subst er
    have H13d : Hold w20 [] wr [] := Hold.t H21d0 cr
    clear H21d0
    clear cr
    refine ⟨.inr (Hold.ch H13d), ?_⟩
    have H14 : Hold w [] wr [rB g1 34 ([.int .i64 s, .int .i64 b]), rB g2 49 ([.slice none 0 0, .slice none 0 0]), rB g3 32 ([.int .i64 (s * b), .int .i64 (tabs s b), .int .i64 (logs s b), .int .i64 (logs s b + s * b), .int .i64 (s * b - 2 * b)]), rR u8 5 x (List.replicate (fmN s b * 64) 0), rR kW 112 y ([] : List Wr), rB g 183 ([dv, wv, .map (some mg)]), rR u8 5 dv (List.replicate (fmN s b * 64) 0), rR kW 112 wv ([] : List Wr), rM mg (yng ([] : List Wr)), rB g5 121 (byts (encH 1 s b))] := Hold.news H12 H13d
    clear H13d H12
    have H15 : Hold w [] wr [rB g 183 ([dv, wv, .map (some mg)]), rR u8 5 dv (List.replicate (fmN s b * 64) 0), rR kW 112 wv ([] : List Wr), rM mg (yng ([] : List Wr)), rB g1 34 ([.int .i64 s, .int .i64 b]), rB g2 49 ([.slice none 0 0, .slice none 0 0]), rB g3 32 ([.int .i64 (s * b), .int .i64 (tabs s b), .int .i64 (logs s b), .int .i64 (logs s b + s * b), .int .i64 (s * b - 2 * b)]), rR u8 5 x (List.replicate (fmN s b * 64) 0), rR kW 112 y ([] : List Wr), rB g5 121 (byts (encH 1 s b))] := Hold.re H14 [5, 6, 7, 8, 0, 1, 2, 3, 4, 9] (by kernel_rfl) (by rfl)
    clear H14
    obtain ⟨F24, hF24, n24, K24, X24, s24⟩ := Hold.frontx (Γ := [rB g 183 ([dv, wv, .map (some mg)]), rR u8 5 dv (List.replicate (fmN s b * 64) 0), rR kW 112 wv ([] : List Wr), rM mg (yng ([] : List Wr))]) (Δ := [rB g1 34 ([.int .i64 s, .int .i64 b]), rB g2 49 ([.slice none 0 0, .slice none 0 0]), rB g3 32 ([.int .i64 (s * b), .int .i64 (tabs s b), .int .i64 (logs s b), .int .i64 (logs s b + s * b), .int .i64 (s * b - 2 * b)]), rR u8 5 x (List.replicate (fmN s b * 64) 0), rR kW 112 y ([] : List Wr), rB g5 121 (byts (encH 1 s b))]) H15
    have b25 : B wr g5 121 (byts (encH 1 s b)) := Hold.blk H15 9 rfl
    obtain ⟨_, ⟨rfl, bq⟩, xq⟩ := X24 5 (rB g5 121 (byts (encH 1 s b))) rfl
    refine ed1 4 (by kernel_rfl) <| euc rfl go133 (ac rfl (ac rfl (ac rfl an))) (platter_write (b := (fmA s b : Int)) hF24 n24 (Kd.W.R (row_of_arr (xs := encH 1 s b) b25 hL (Nat.le_of_ble_eq_true rfl))) xq (by omega) (by simp)) ?_
    rintro _ ww ⟨wv', Hw⟩
    have H16 : Hold w [] ww [rB g 183 ([dv, wv', .map (some mg)]), rR u8 5 dv (List.replicate (fmN s b * 64) 0), rR kW 112 wv' ([((fmA s b : Int), encH 1 s b)]), rM mg (yng ([((fmA s b : Int), encH 1 s b)])), rB g1 34 ([.int .i64 s, .int .i64 b]), rB g2 49 ([.slice none 0 0, .slice none 0 0]), rB g3 32 ([.int .i64 (s * b), .int .i64 (tabs s b), .int .i64 (logs s b), .int .i64 (logs s b + s * b), .int .i64 (s * b - 2 * b)]), rR u8 5 x (List.replicate (fmN s b * 64) 0), rR kW 112 y ([] : List Wr), rB g5 121 (byts (encH 1 s b))] := Hold.call K24 Hw
    clear H15
    clear K24 hF24 n24 s24
    clear Hw
    refine ⟨.inl (by kernel_rfl), ?_⟩
    refine edd (by kernel_rfl) ?_
    refine sq ?_
    refine gen (fun ρ => ρ 2 = .pointer (some ⟨g2, 0, none⟩) ∧ ρ 4 = .pointer (some ⟨g, 0, none⟩) ∧ True) ⟨z2, z4, trivial⟩ ?_
    rintro ρ ⟨z2, z4, -⟩
    refine rg (r (mv z4) ?_)
    obtain ⟨F26, hF26, n26, s26, K26⟩ := Hold.front (Γ := [rB g 183 ([dv, wv', .map (some mg)]), rR u8 5 dv (List.replicate (fmN s b * 64) 0), rR kW 112 wv' ([((fmA s b : Int), encH 1 s b)]), rM mg (yng [((fmA s b : Int), encH 1 s b)])]) (Δ := [rB g1 34 ([.int .i64 s, .int .i64 b]), rB g2 49 ([.slice none 0 0, .slice none 0 0]), rB g3 32 ([.int .i64 (s * b), .int .i64 (tabs s b), .int .i64 (logs s b), .int .i64 (logs s b + s * b), .int .i64 (s * b - 2 * b)]), rR u8 5 x (List.replicate (fmN s b * 64) 0), rR kW 112 y ([] : List Wr), rB g5 121 (byts (encH 1 s b))]) H16
    refine cl go135 ((by have h9 := platter_barrier hF26 n26 (show VD _ _ from V); rw [show ([((fmA s b : Int), encH 1 s b)] : List Wr).length = 1 from rfl, eS] at h9; exact h9)) (ac rfl an) ?_
    rintro _ wb Hb
    have H17 : Hold w [] wb [rB g 183 ([dv, .slice none 0 0, .map (some mg)]), rR u8 5 dv (fmX s b), rR kW 112 (.slice none 0 0) ([] : List Wr), rM mg (yng ([] : List Wr)), rB g1 34 ([.int .i64 s, .int .i64 b]), rB g2 49 ([.slice none 0 0, .slice none 0 0]), rB g3 32 ([.int .i64 (s * b), .int .i64 (tabs s b), .int .i64 (logs s b), .int .i64 (logs s b + s * b), .int .i64 (s * b - 2 * b)]), rR u8 5 x (List.replicate (fmN s b * 64) 0), rR kW 112 y ([] : List Wr), rB g5 121 (byts (encH 1 s b))] := Hold.call K26 Hb
    clear H16
    clear K26 hF26 n26 s26
    clear Hb
    have b28 : B wb g 183 ([dv, .slice none 0 0, .map (some mg)]) := Hold.blk H17 0 rfl
    obtain ⟨_, R29⟩ : ∃ F, Kd.R u8 wb F dv (fmX s b) := Hold.row H17 1 rfl
    obtain ⟨_, R30⟩ : ∃ F, Kd.R kW wb F (.slice none 0 0) ([] : List Wr) := Hold.row H17 2 rfl
    refine re (sq (rg (r (mv z4) (cl go136 (platter_disk b28 R29 R30 (by rw [hXl]; omega) (by simp) (by simp)) (ac rfl an) ?_))))
    rintro r wd ⟨a, c, rfl, Hd⟩
    have H18 : Hold w [] wd [rB g 183 ([dv, .slice none 0 0, .map (some mg)]), rR u8 5 dv (fmX s b), rR kW 112 (.slice none 0 0) ([] : List Wr), rM mg (yng ([] : List Wr)), rB g1 34 ([.int .i64 s, .int .i64 b]), rB g2 49 ([.slice none 0 0, .slice none 0 0]), rB g3 32 ([.int .i64 (s * b), .int .i64 (tabs s b), .int .i64 (logs s b), .int .i64 (logs s b + s * b), .int .i64 (s * b - 2 * b)]), rR u8 5 x (List.replicate (fmN s b * 64) 0), rR kW 112 y ([] : List Wr), rB g5 121 (byts (encH 1 s b)), rR u8 5 a (fmX s b), rR kW 112 c ([] : List Wr)] := Hold.news H17 Hd
    clear H17
    clear Hd
    have b31 : B wd g2 49 ([.slice none 0 0, .slice none 0 0]) := Hold.blk H18 5 rfl
    obtain ⟨_, R33⟩ : ∃ F, Kd.R kW wd F c ([] : List Wr) := Hold.row H18 11 rfl
    obtain ⟨_, R34⟩ : ∃ F, Kd.R u8 wd F a (fmX s b) := Hold.row H18 10 rfl
    refine ef0 (xst (vs := [a, c]) ti49 z2 rfl rfl b31 rfl (Nat.le_of_ble_eq_true rfl) (oc (R34).oneCell (oc (R33).oneCell on))) ?_
    rintro w32 ⟨-, b32, c32⟩
    have H19 : Hold w [] w32 [rB g 183 ([dv, .slice none 0 0, .map (some mg)]), rR u8 5 dv (fmX s b), rR kW 112 (.slice none 0 0) ([] : List Wr), rM mg (yng ([] : List Wr)), rB g1 34 ([.int .i64 s, .int .i64 b]), rB g2 49 ([a, c]), rB g3 32 ([.int .i64 (s * b), .int .i64 (tabs s b), .int .i64 (logs s b), .int .i64 (logs s b + s * b), .int .i64 (s * b - 2 * b)]), rR u8 5 x (List.replicate (fmN s b * 64) 0), rR kW 112 y ([] : List Wr), rB g5 121 (byts (encH 1 s b)), rR u8 5 a (fmX s b), rR kW 112 c ([] : List Wr)] := Hold.setB H18 5 rfl b32 c32 rfl
    clear H18
    clear b32 c32
    refine re (rt ?_)
    have b35 : B w32 g2 49 ([a, c]) := Hold.blk H19 5 rfl
    have H20 : Hold w [] w32 [rR u8 5 a (fmX s b), rR kW 112 c ([] : List Wr)] := (show Hold w [] w32 ([rR u8 5 a (fmX s b), rR kW 112 c ([] : List Wr)] ++ [rB g 183 ([dv, .slice none 0 0, .map (some mg)]), rR u8 5 dv (fmX s b), rR kW 112 (.slice none 0 0) ([] : List Wr), rM mg (yng ([] : List Wr)), rB g1 34 ([.int .i64 s, .int .i64 b]), rB g2 49 ([a, c]), rB g3 32 ([.int .i64 (s * b), .int .i64 (tabs s b), .int .i64 (logs s b), .int .i64 (logs s b + s * b), .int .i64 (s * b - 2 * b)]), rR u8 5 x (List.replicate (fmN s b * 64) 0), rR kW 112 y ([] : List Wr), rB g5 121 (byts (encH 1 s b))]) from Hold.re H19 [10, 11, 0, 1, 2, 3, 4, 5, 6, 7, 8, 9] (by kernel_rfl) (by rfl)).drop
    clear H19
    exact finc  (cs := [a, c]) Try.results81 Try.underlying49 rfl ti49 z2 b35 rfl  ⟨_, _, rfl, H20⟩
attribute [local irreducible] fmtD
theorem w_FnExactFormatDisk {w : World} {s b : Int} : Ret Try.prog 18 #[.agg #[.int .i64 s, .int .i64 b]] w (fun r w' => r = .bool true ∧ Ch [] w w') := by
  obtain ⟨m1, m2, m3, m4⟩ := fmtD_sm (s := s) (b := b)
  refine enter Try.func18 rfl Try.ntmps18 (by rfl) (by rfl) ?_
  have H0 : Hold w [] w [] := Hold.start w
  refine sq (rg (ef (xbx (t := 30) rfl rfl) ?_))
  rintro _ w1 ⟨g1, e1, rfl, -, b1, c1⟩
  have H1 : Hold w [] w1 [rB g1 30 ([.int .i64 s, .int .i64 b])] := Hold.newB H0 e1 b1 c1
  clear H0
  clear e1 b1 c1
  have b2 : B w1 g1 30 ([.int .i64 s, .int .i64 b]) := Hold.blk H1 0 rfl
  refine r (sa rfl) (re (sq (rg (r (lab [.int .i64 s, .int .i64 b] Try.underlying30 rfl ti30 rfl b2 rfl rfl) (cl go30 (toGeometry) (ac rfl an) ?_)))))
  rintro r wtg3 ⟨rfl, ctg3⟩
  have H2 : Hold w [] wtg3 [rB g1 30 ([.int .i64 s, .int .i64 b])] := Hold.t H1 ctg3
  clear H1
  clear ctg3
  refine cl go80 (spec_FormatDisk) (ac rfl an) ?_
  rintro r wD5 ⟨a_5, b_5, rfl, HD5⟩
  have H3 : Hold w [] wD5 [rB g1 30 ([.int .i64 s, .int .i64 b]), rR u8 5 a_5 ((fmtD s b).1), rR kW 112 b_5 ((fmtD s b).2)] := Hold.news H2 HD5
  clear H2
  clear HD5
  refine ef (xal ti49) ?_
  rintro _ w7 ⟨g3, e7, rfl, -, b7, c7⟩
  have H4 : Hold w [] w7 [rB g1 30 ([.int .i64 s, .int .i64 b]), rR u8 5 a_5 ((fmtD s b).1), rR kW 112 b_5 ((fmtD s b).2), rB g3 49 ([.slice none 0 0, .slice none 0 0])] := Hold.newB H3 e7 b7 c7
  clear H3
  clear e7 b7 c7
  have b8 : B w7 g3 49 ([.slice none 0 0, .slice none 0 0]) := Hold.blk H4 3 rfl
  obtain ⟨_, R10⟩ : ∃ F, Kd.R kW w7 F b_5 ((fmtD s b).2) := Hold.row H4 2 rfl
  obtain ⟨_, R11⟩ : ∃ F, Kd.R u8 w7 F a_5 ((fmtD s b).1) := Hold.row H4 1 rfl
  refine ef0 (xst (vs := [a_5, b_5]) ti49 rfl rfl rfl b8 rfl (Nat.le_of_ble_eq_true rfl) (oc (R11).oneCell (oc (R10).oneCell on))) ?_
  rintro w9 ⟨-, b9, c9⟩
  have H5 : Hold w [] w9 [rB g1 30 ([.int .i64 s, .int .i64 b]), rR u8 5 a_5 ((fmtD s b).1), rR kW 112 b_5 ((fmtD s b).2), rB g3 49 ([a_5, b_5])] := Hold.setB H4 3 rfl b9 c9 rfl
  clear H4
  clear b9 c9
  have b12 : B w9 g1 30 ([.int .i64 s, .int .i64 b]) := Hold.blk H5 0 rfl
  refine re (sq (rg (r (lab [.int .i64 s, .int .i64 b] Try.underlying30 rfl ti30 rfl b12 rfl rfl) (cl go30 (toGeometry) (ac rfl an) ?_))))
  rintro r wtg13 ⟨rfl, ctg13⟩
  have H6 : Hold w [] wtg13 [rB g1 30 ([.int .i64 s, .int .i64 b]), rR u8 5 a_5 ((fmtD s b).1), rR kW 112 b_5 ((fmtD s b).2), rB g3 49 ([a_5, b_5])] := Hold.t H5 ctg13
  clear H5
  clear ctg13
  refine cl go81 (impl_FormatDisk) (ac rfl an) ?_
  rintro r wD15 ⟨a_15, b_15, rfl, HD15⟩
  have H7 : Hold w [] wD15 [rB g1 30 ([.int .i64 s, .int .i64 b]), rR u8 5 a_5 ((fmtD s b).1), rR kW 112 b_5 ((fmtD s b).2), rB g3 49 ([a_5, b_5]), rR u8 5 a_15 ((fmtD s b).1), rR kW 112 b_15 ((fmtD s b).2)] := Hold.news H6 HD15
  clear H6
  clear HD15
  refine ef (xal ti49) ?_
  rintro _ w17 ⟨g4, e17, rfl, -, b17, c17⟩
  have H8 : Hold w [] w17 [rB g1 30 ([.int .i64 s, .int .i64 b]), rR u8 5 a_5 ((fmtD s b).1), rR kW 112 b_5 ((fmtD s b).2), rB g3 49 ([a_5, b_5]), rR u8 5 a_15 ((fmtD s b).1), rR kW 112 b_15 ((fmtD s b).2), rB g4 49 ([.slice none 0 0, .slice none 0 0])] := Hold.newB H7 e17 b17 c17
  clear H7
  clear e17 b17 c17
  have b18 : B w17 g4 49 ([.slice none 0 0, .slice none 0 0]) := Hold.blk H8 6 rfl
  obtain ⟨_, R20⟩ : ∃ F, Kd.R kW w17 F b_15 ((fmtD s b).2) := Hold.row H8 5 rfl
  obtain ⟨_, R21⟩ : ∃ F, Kd.R u8 w17 F a_15 ((fmtD s b).1) := Hold.row H8 4 rfl
  refine ef0 (xst (vs := [a_15, b_15]) ti49 rfl rfl rfl b18 rfl (Nat.le_of_ble_eq_true rfl) (oc (R21).oneCell (oc (R20).oneCell on))) ?_
  rintro w19 ⟨-, b19, c19⟩
  have H9 : Hold w [] w19 [rB g1 30 ([.int .i64 s, .int .i64 b]), rR u8 5 a_5 ((fmtD s b).1), rR kW 112 b_5 ((fmtD s b).2), rB g3 49 ([a_5, b_5]), rR u8 5 a_15 ((fmtD s b).1), rR kW 112 b_15 ((fmtD s b).2), rB g4 49 ([a_15, b_15])] := Hold.setB H8 6 rfl b19 c19 rfl
  clear H8
  clear b19 c19
  refine re (sq (sq ?_))
  refine gen (fun ρ => ρ 1 = .pointer (some ⟨g1, 0, none⟩) ∧ ρ 2 = .bool false ∧ ρ 3 = .pointer (some ⟨g3, 0, none⟩) ∧ ρ 4 = .pointer (some ⟨g4, 0, none⟩) ∧ True) ⟨rfl, rfl, rfl, rfl, trivial⟩ ?_
  rintro ρ ⟨z1, z2, z3, z4, -⟩
  have b22 : B w19 g4 49 ([a_15, b_15]) := Hold.blk H9 6 rfl
  have b23 : B w19 g3 49 ([a_5, b_5]) := Hold.blk H9 3 rfl
  obtain ⟨_, R26⟩ : ∃ F, Kd.R u8 w19 F a_15 ((fmtD s b).1) := Hold.row H9 4 rfl
  obtain ⟨_, R27⟩ : ∃ F, Kd.R kW w19 F b_15 ((fmtD s b).2) := Hold.row H9 5 rfl
  obtain ⟨_, R28⟩ : ∃ F, Kd.R u8 w19 F a_5 ((fmtD s b).1) := Hold.row H9 1 rfl
  obtain ⟨_, R29⟩ : ∃ F, Kd.R kW w19 F b_5 ((fmtD s b).2) := Hold.row H9 2 rfl
  refine rg (r (lab [a_15, b_15] Try.underlying49 rfl ti49 z4 b22 rfl rfl) (r (lab [a_5, b_5] Try.underlying49 rfl ti49 z3 b23 rfl rfl) (cl go41 (eqDisk R26 R27 R28 R29 (by first | assumption | omega | (simp; omega)) (by first | assumption | omega | (simp; omega)) (by assumption)) (ac rfl (ac rfl an)) ?_)))
  rintro r wq24 ⟨rfl, cq24⟩
  have H10 : Hold w [] wq24 [rB g1 30 ([.int .i64 s, .int .i64 b]), rR u8 5 a_5 ((fmtD s b).1), rR kW 112 b_5 ((fmtD s b).2), rB g3 49 ([a_5, b_5]), rR u8 5 a_15 ((fmtD s b).1), rR kW 112 b_15 ((fmtD s b).2), rB g4 49 ([a_15, b_15])] := Hold.t H9 cq24
  clear H9
  clear cq24
  refine r (nt rfl) (re ?_)
  refine cf ((rfl : _ = Value.bool (!(decide (((fmtD s b).1, (fmtD s b).2) = ((fmtD s b).1, (fmtD s b).2))))).trans (congrArg Value.bool (show (!(decide (((fmtD s b).1, (fmtD s b).2) = ((fmtD s b).1, (fmtD s b).2)))) = false from (by rw [decide_eq_true rfl]; rfl)))) ?_
  have b30 : B wq24 g4 49 ([a_15, b_15]) := Hold.blk H10 6 rfl
  have H11 : Hold w [] wq24 [rR u8 5 a_15 ((fmtD s b).1), rR kW 112 b_15 ((fmtD s b).2), rB g1 30 ([.int .i64 s, .int .i64 b]), rR u8 5 a_5 ((fmtD s b).1), rR kW 112 b_5 ((fmtD s b).2), rB g3 49 ([a_5, b_5]), rB g4 49 ([a_15, b_15])] := Hold.re H10 [4, 5, 0, 1, 2, 3, 6] (by kernel_rfl) (by rfl)
  clear H10
  obtain ⟨F32, hF32, n32, s32, K32⟩ := Hold.front (Γ := [rR u8 5 a_15 ((fmtD s b).1), rR kW 112 b_15 ((fmtD s b).2)]) (Δ := [rB g1 30 ([.int .i64 s, .int .i64 b]), rR u8 5 a_5 ((fmtD s b).1), rR kW 112 b_5 ((fmtD s b).2), rB g3 49 ([a_5, b_5]), rB g4 49 ([a_15, b_15])]) H11
  refine sk (sq (rg (r (sa rfl) (re (sq (rg (r (lab [a_15, b_15] Try.underlying49 rfl ti49 z4 b30 rfl rfl) (r (mv rfl) (cl go42 (markDisk_H hF32 n32 (by omega) (by first | assumption | omega | (simp; omega)) (by first | assumption | omega)) (ac rfl (ac rfl an)) ?_)))))))))
  rintro r wm31 ⟨rfl, Hm31⟩
  have H12 : Hold w [] wm31 [rR u8 5 a_15 (marks 1 ((fmtD s b).1).length), rR kW 112 b_15 (mkW (1 + ((fmtD s b).1).length) ((fmtD s b).2)), rB g1 30 ([.int .i64 s, .int .i64 b]), rR u8 5 a_5 ((fmtD s b).1), rR kW 112 b_5 ((fmtD s b).2), rB g3 49 ([a_5, b_5]), rB g4 49 ([a_15, b_15])] := Hold.call K32 Hm31
  clear H11
  clear K32 hF32 n32 s32
  clear Hm31
  refine r (sa rfl) (re (sq (rg (r (sa rfl) (re (sq ?_))))))
  refine gen (fun ρ => ρ 1 = .pointer (some ⟨g1, 0, none⟩) ∧ ρ 2 = .bool false ∧ ρ 3 = .pointer (some ⟨g3, 0, none⟩) ∧ ρ 4 = .pointer (some ⟨g4, 0, none⟩) ∧ ρ 5 = .int .i64 (1 + (((fmtD s b).1).length : Int) + (szW ((fmtD s b).2) : Int)) ∧ ρ 6 = .int .i64 1 ∧ True) ⟨z1, z2, z3, z4, rfl, rfl, trivial⟩ ?_
  rintro ρ ⟨z1, z2, z3, z4, z5, z6, -⟩
  have b33 : B wm31 g4 49 ([a_15, b_15]) := Hold.blk H12 6 rfl
  obtain ⟨_, R36⟩ : ∃ F, Kd.R u8 wm31 F a_15 (marks 1 ((fmtD s b).1).length) := Hold.row H12 0 rfl
  obtain ⟨_, R37⟩ : ∃ F, Kd.R kW wm31 F b_15 (mkW (1 + ((fmtD s b).1).length) ((fmtD s b).2)) := Hold.row H12 1 rfl
  refine rg (r (lab [a_15, b_15] Try.underlying49 rfl ti49 z4 b33 rfl rfl) (r (mv z6) (cl go43 (heldDisk (n := ((fmtD s b).1).length) (ps := ((fmtD s b).2)) R36 R37 (by omega) (by first | assumption | omega | (simp; omega)) (by first | assumption | omega)) (ac rfl (ac rfl an)) ?_)))
  rintro r wh34 ⟨rfl, ch34⟩
  have H13 : Hold w [] wh34 [rR u8 5 a_15 (marks 1 ((fmtD s b).1).length), rR kW 112 b_15 (mkW (1 + ((fmtD s b).1).length) ((fmtD s b).2)), rB g1 30 ([.int .i64 s, .int .i64 b]), rR u8 5 a_5 ((fmtD s b).1), rR kW 112 b_5 ((fmtD s b).2), rB g3 49 ([a_5, b_5]), rB g4 49 ([a_15, b_15])] := Hold.t H12 ch34
  clear H12
  clear ch34
  refine r (sa rfl) (re (sq (sq (rg (r (mv rfl) (r (bi rfl rfl rfl) (re ?_)))))))
  refine cf ((rfl : _ = Value.bool (decide ((1 + ((((fmtD s b).1).length : Nat) : Int) + (szW ((fmtD s b).2) : Int)) < 0))).trans (congrArg Value.bool (show (decide ((1 + ((((fmtD s b).1).length : Nat) : Int) + (szW ((fmtD s b).2) : Int)) < 0)) = false from (decide_eq_false (by omega))))) ?_
  refine sk (sq (sq (rg (r (mv rfl) (r (mv z5) (r (bi rfl rfl rfl) (re ?_)))))))
  refine cf ((rfl : _ = Value.bool (!decide ((1 + ((((fmtD s b).1).length : Nat) : Int) + (szW ((fmtD s b).2) : Int)) = (1 + (((fmtD s b).1).length : Int) + (szW ((fmtD s b).2) : Int))))).trans (congrArg Value.bool (show (!decide ((1 + ((((fmtD s b).1).length : Nat) : Int) + (szW ((fmtD s b).2) : Int)) = (1 + (((fmtD s b).1).length : Int) + (szW ((fmtD s b).2) : Int)))) = false from (by rw [decide_eq_true (by omega)]; rfl)))) ?_
  have b38 : B wh34 g1 30 ([.int .i64 s, .int .i64 b]) := Hold.blk H13 2 rfl
  refine sk (sq (rg (r (lab [.int .i64 s, .int .i64 b] Try.underlying30 rfl ti30 z1 b38 rfl rfl) (cl go30 (toGeometry) (ac rfl an) ?_))))
  rintro r wtg39 ⟨rfl, ctg39⟩
  have H14 : Hold w [] wtg39 [rR u8 5 a_15 (marks 1 ((fmtD s b).1).length), rR kW 112 b_15 (mkW (1 + ((fmtD s b).1).length) ((fmtD s b).2)), rB g1 30 ([.int .i64 s, .int .i64 b]), rR u8 5 a_5 ((fmtD s b).1), rR kW 112 b_5 ((fmtD s b).2), rB g3 49 ([a_5, b_5]), rB g4 49 ([a_15, b_15])] := Hold.t H13 ctg39
  clear H13
  clear ctg39
  refine cl go81 (impl_FormatDisk) (ac rfl an) ?_
  rintro r wD41 ⟨a_41, b_41, rfl, HD41⟩
  have H15 : Hold w [] wD41 [rR u8 5 a_15 (marks 1 ((fmtD s b).1).length), rR kW 112 b_15 (mkW (1 + ((fmtD s b).1).length) ((fmtD s b).2)), rB g1 30 ([.int .i64 s, .int .i64 b]), rR u8 5 a_5 ((fmtD s b).1), rR kW 112 b_5 ((fmtD s b).2), rB g3 49 ([a_5, b_5]), rB g4 49 ([a_15, b_15]), rR u8 5 a_41 ((fmtD s b).1), rR kW 112 b_41 ((fmtD s b).2)] := Hold.news H14 HD41
  clear H14
  clear HD41
  refine ef (xal ti49) ?_
  rintro _ w43 ⟨g7, e43, rfl, -, b43, c43⟩
  have H16 : Hold w [] w43 [rR u8 5 a_15 (marks 1 ((fmtD s b).1).length), rR kW 112 b_15 (mkW (1 + ((fmtD s b).1).length) ((fmtD s b).2)), rB g1 30 ([.int .i64 s, .int .i64 b]), rR u8 5 a_5 ((fmtD s b).1), rR kW 112 b_5 ((fmtD s b).2), rB g3 49 ([a_5, b_5]), rB g4 49 ([a_15, b_15]), rR u8 5 a_41 ((fmtD s b).1), rR kW 112 b_41 ((fmtD s b).2), rB g7 49 ([.slice none 0 0, .slice none 0 0])] := Hold.newB H15 e43 b43 c43
  clear H15
  clear e43 b43 c43
  have b44 : B w43 g7 49 ([.slice none 0 0, .slice none 0 0]) := Hold.blk H16 9 rfl
  obtain ⟨_, R46⟩ : ∃ F, Kd.R kW w43 F b_41 ((fmtD s b).2) := Hold.row H16 8 rfl
  obtain ⟨_, R47⟩ : ∃ F, Kd.R u8 w43 F a_41 ((fmtD s b).1) := Hold.row H16 7 rfl
  refine ef0 (xst (vs := [a_41, b_41]) ti49 rfl rfl rfl b44 rfl (Nat.le_of_ble_eq_true rfl) (oc (R47).oneCell (oc (R46).oneCell on))) ?_
  rintro w45 ⟨-, b45, c45⟩
  have H17 : Hold w [] w45 [rR u8 5 a_15 (marks 1 ((fmtD s b).1).length), rR kW 112 b_15 (mkW (1 + ((fmtD s b).1).length) ((fmtD s b).2)), rB g1 30 ([.int .i64 s, .int .i64 b]), rR u8 5 a_5 ((fmtD s b).1), rR kW 112 b_5 ((fmtD s b).2), rB g3 49 ([a_5, b_5]), rB g4 49 ([a_15, b_15]), rR u8 5 a_41 ((fmtD s b).1), rR kW 112 b_41 ((fmtD s b).2), rB g7 49 ([a_41, b_41])] := Hold.setB H16 9 rfl b45 c45 rfl
  clear H16
  clear b45 c45
  refine re (sq (sq ?_))
  refine gen (fun ρ => ρ 2 = .bool false ∧ ρ 3 = .pointer (some ⟨g3, 0, none⟩) ∧ ρ 7 = .pointer (some ⟨g7, 0, none⟩) ∧ True) ⟨z2, z3, rfl, trivial⟩ ?_
  rintro ρ ⟨z2, z3, z7, -⟩
  have b48 : B w45 g7 49 ([a_41, b_41]) := Hold.blk H17 9 rfl
  have b49 : B w45 g3 49 ([a_5, b_5]) := Hold.blk H17 5 rfl
  obtain ⟨_, R52⟩ : ∃ F, Kd.R u8 w45 F a_41 ((fmtD s b).1) := Hold.row H17 7 rfl
  obtain ⟨_, R53⟩ : ∃ F, Kd.R kW w45 F b_41 ((fmtD s b).2) := Hold.row H17 8 rfl
  obtain ⟨_, R54⟩ : ∃ F, Kd.R u8 w45 F a_5 ((fmtD s b).1) := Hold.row H17 3 rfl
  obtain ⟨_, R55⟩ : ∃ F, Kd.R kW w45 F b_5 ((fmtD s b).2) := Hold.row H17 4 rfl
  refine rg (r (lab [a_41, b_41] Try.underlying49 rfl ti49 z7 b48 rfl rfl) (r (lab [a_5, b_5] Try.underlying49 rfl ti49 z3 b49 rfl rfl) (cl go41 (eqDisk R52 R53 R54 R55 (by first | assumption | omega | (simp; omega)) (by first | assumption | omega | (simp; omega)) (by assumption)) (ac rfl (ac rfl an)) ?_)))
  rintro r wq50 ⟨rfl, cq50⟩
  have H18 : Hold w [] wq50 [rR u8 5 a_15 (marks 1 ((fmtD s b).1).length), rR kW 112 b_15 (mkW (1 + ((fmtD s b).1).length) ((fmtD s b).2)), rB g1 30 ([.int .i64 s, .int .i64 b]), rR u8 5 a_5 ((fmtD s b).1), rR kW 112 b_5 ((fmtD s b).2), rB g3 49 ([a_5, b_5]), rB g4 49 ([a_15, b_15]), rR u8 5 a_41 ((fmtD s b).1), rR kW 112 b_41 ((fmtD s b).2), rB g7 49 ([a_41, b_41])] := Hold.t H17 cq50
  clear H17
  clear cq50
  refine r (nt rfl) (re ?_)
  refine cf ((rfl : _ = Value.bool (!(decide (((fmtD s b).1, (fmtD s b).2) = ((fmtD s b).1, (fmtD s b).2))))).trans (congrArg Value.bool (show (!(decide (((fmtD s b).1, (fmtD s b).2) = ((fmtD s b).1, (fmtD s b).2)))) = false from (by rw [decide_eq_true rfl]; rfl)))) ?_
  refine sk (sq (rg (r (sa rfl) (re (rt ?_)))))
  exact fin1 (v := .bool true) Try.results18 rfl ⟨rfl, Hold.ch H18⟩
end Go.Proofs.Ytgpcanjmgdmdhaa
