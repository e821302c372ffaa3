/-
  CONTRACTS 37: a disk is read. No condition.
-/
import Derived.Test.Ytgpcanjmgdmdhaa36
namespace Go.Proofs.Ytgpcanjmgdmdhaa
open Go Go.Eng
set_option maxRecDepth 100000
set_option maxHeartbeats 4000000
set_option linter.unusedVariables false
set_option linter.unusedSimpArgs false
structure VD (xs : List Int) (ps : List Wr) : Prop where
  mod : (xs.length : Int) % 64 = 0
  one : 1 ≤ blks xs
  top : blks xs ≤ 1200
  num : ps.length ≤ 400
  ok : ∀ x, x ∈ ps → wok (blks xs) x
theorem VD.of {xs : List Int} {ps : List Wr} (h : vdisk xs ps = true) : VD xs ps := by
  simp only [vdisk, Bool.and_eq_true, decide_eq_true_eq, List.all_eq_true] at h
  exact ⟨h.1.1, h.1.2.1, h.1.2.2.1, h.1.2.2.2, h.2⟩
theorem VD.len {xs : List Int} {ps : List Wr} (h : VD xs ps) : (xs.length : Int) = 64 * blks xs := by have := h.mod; unfold blks; omega
theorem VD.at {xs : List Int} {ps : List Wr} (h : VD xs ps) {b : Int} (hb : 0 ≤ b ∧ b < blks xs) : b.toNat * 64 + 64 ≤ xs.length := by have := h.len; omega
abbrev drOk (xs : List Int) (ps : List Wr) (b : Int) : Prop := vdisk xs ps = true ∧ 0 ≤ b ∧ b < blks xs
def drD (xs : List Int) (ps : List Wr) (b : Int) : List Int := if drOk xs ps b then readD xs ps b else []
theorem readD_len {xs : List Int} {ps : List Wr} {b : Int} (hb : b.toNat * 64 + 64 ≤ xs.length) (ok : ∀ x, x ∈ ps → x.2.length = 64) : (readD xs ps b).length = 64 := by
  induction ps using rev_ind with
  | h0 => simp [readD]; omega
  | h1 ps x ih =>
    rw [readD_app]
    split
    · exact ok x (by simp)
    · exact ih (fun y hy => ok y (by simp [hy]))
theorem drD_len {xs : List Int} {ps : List Wr} {b : Int} : (drD xs ps b).length ≤ 64 := by
  unfold drD; split
  · rename_i h; rw [readD_len ((VD.of h.1).at h.2) (fun x hx => ((VD.of h.1).ok x hx).2.2)]; omega
  · simp
theorem l1Copy_H {w : World} {F : List Nat} {v : Value} {xs : List Int} (hx : u8.R w F v xs) (lx : xs.length ≤ 1000000000) : Ret Try.prog 130 #[v] w (fun r w' => Hold w [] w' [rR u8 5 r xs]) :=
  Calls.mono (l1Copy hx lx) fun _ _ h => h.imp fun _ h => ⟨h.1, hold_new h.2.1 h.2.2⟩
theorem impl_DiskRead {w : World} {F G : List Nat} {v u : Value} {xs : List Int} {ps : List Wr} {b : Int} (hx : u8.R w F v xs) (hp : kW.R w G u ps) (lx : xs.length ≤ 1000000000) (hlp : ps.length ≤ 2000000) (lxx : ∀ x, x ∈ ps → x.2.length ≤ 1000000000) : Ret Try.prog 79 #[.agg #[v, u], .int .i64 b] w (fun r w' => ∃ e, Hold w [] w' [rR u8 e r (drD xs ps b)]) := by
  refine enter Try.func79 rfl Try.ntmps79 (by rfl) (by rfl) ?_
  have H0 : Hold w [] w [] := Hold.start w
  refine sq (rg (ef (xbx (t := 49) rfl rfl) ?_))
  rintro _ w1 ⟨g2, e1, rfl, -, b1, c1⟩
  have H1 : Hold w [] w1 [rB g2 49 ([v, u])] := Hold.newB H0 e1 b1 c1
  clear H0
  clear e1 b1 c1
  have b2 : B w1 g2 49 ([v, u]) := Hold.blk H1 0 rfl
  refine r (sa rfl) (re (sq (sq (rg (r (lab [v, u] Try.underlying49 rfl ti49 rfl b2 rfl rfl) (cl go59 (impl_ValidDisk (hx.t (Hold.ch H1)) (hp.t (Hold.ch H1)) lx (by omega) lxx) (ac rfl an) ?_))))))
  rintro r wv ⟨rfl, cv⟩
  have H2 : Hold w [] wv [rB g2 49 ([v, u])] := Hold.t H1 cv
  clear H1
  clear cv
  refine r (nt rfl) (r (mv rfl) ?_)
  refine spb 9 rfl (fun h1 => ?_) (fun h1 => ?_)
  · rw [show drD xs ps b = [] from if_neg (fun e => by simp [e.1] at h1)]
    have H3 : Hold w [] wv [rB g2 49 ([v, u]), rR u8 5 (.slice none 0 0) ([])] := Hold.nilrow u8 5 H2
    clear H2
    refine gn rfl rfl rfl (gn rfl rfl rfl (r (pk rfl rfl) (r (mv rfl) (gn rfl rfl rfl (gn rfl rfl rfl (gn rfl rfl rfl (gn rfl rfl rfl (r (pk rfl rfl) (re (ct rfl (sq ?_)))))))))))
    refine gen (fun ρ => ρ 1 = .int .i64 b ∧ ρ 2 = .pointer (some ⟨g2, 0, none⟩) ∧ ρ 4 = .slice none 0 0 ∧ True) ⟨rfl, rfl, rfl, trivial⟩ ?_
    rintro ρ ⟨z1, z2, z4, -⟩
    refine rg (r (sa rfl) (re (rt ?_)))
    have H4 : Hold w [] wv [rR u8 5 (.slice none 0 0) ([])] := (show Hold w [] wv ([rR u8 5 (.slice none 0 0) ([])] ++ [rB g2 49 ([v, u])]) from Hold.re H3 [1, 0] (by rfl) (by rfl)).drop
    clear H3
    exact fin1 (v := .slice none 0 0) Try.results79 rfl ⟨5, H4⟩
  · refine gy rfl rfl rfl (r (mv rfl) (gy rfl rfl rfl (r (bi rfl rfl rfl) (r (pk rfl rfl) (r (mv rfl) ?_)))))
    refine sp 13 rfl (fun h2 => ?_) (fun h2 => ?_)
    · rw [show drD xs ps b = [] from if_neg (fun e => by have := e.2; omega)]
      have H3 : Hold w [] wv [rB g2 49 ([v, u]), rR u8 5 (.slice none 0 0) ([])] := Hold.nilrow u8 5 H2
      clear H2
      refine gn rfl rfl rfl (gn rfl rfl rfl (gn rfl rfl rfl (gn rfl rfl rfl (r (pk rfl rfl) (re (ct rfl (sq ?_)))))))
      refine gen (fun ρ => ρ 1 = .int .i64 b ∧ ρ 2 = .pointer (some ⟨g2, 0, none⟩) ∧ ρ 4 = .slice none 0 0 ∧ True) ⟨rfl, rfl, rfl, trivial⟩ ?_
      rintro ρ ⟨z1, z2, z4, -⟩
      refine rg (r (sa rfl) (re (rt ?_)))
      have H4 : Hold w [] wv [rR u8 5 (.slice none 0 0) ([])] := (show Hold w [] wv ([rR u8 5 (.slice none 0 0) ([])] ++ [rB g2 49 ([v, u])]) from Hold.re H3 [1, 0] (by rfl) (by rfl)).drop
      clear H3
      exact fin1 (v := .slice none 0 0) Try.results79 rfl ⟨5, H4⟩
    · have b4 : B wv g2 49 ([v, u]) := Hold.blk H2 0 rfl
      refine gy rfl rfl rfl (r (mv rfl) (gy rfl rfl rfl (r (lab [v, u] Try.underlying49 rfl ti49 rfl b4 rfl rfl) (gy rfl rfl rfl (cl go117 (Disk_blocks (hx.t (Hold.ch H2)) lx) (ac rfl an) ?_)))))
      rintro r wb ⟨rfl, cb⟩
      have H3 : Hold w [] wb [rB g2 49 ([v, u])] := Hold.t H2 cb
      clear H2
      clear cb
      refine gy rfl rfl rfl (r (bi rfl rfl rfl) (r (pk rfl rfl) (re ?_)))
      refine cp rfl (fun h3 => ?_) (fun h3 => ?_)
      · rw [show drD xs ps b = [] from if_neg (fun e => by have := e.2; omega)]
        have H4 : Hold w [] wb [rB g2 49 ([v, u]), rR u8 5 (.slice none 0 0) ([])] := Hold.nilrow u8 5 H3
        clear H3
        refine sq ?_
        refine gen (fun ρ => ρ 1 = .int .i64 b ∧ ρ 2 = .pointer (some ⟨g2, 0, none⟩) ∧ ρ 4 = .slice none 0 0 ∧ True) ⟨rfl, rfl, rfl, trivial⟩ ?_
        rintro ρ ⟨z1, z2, z4, -⟩
        refine rg (r (sa rfl) (re (rt ?_)))
        have H5 : Hold w [] wb [rR u8 5 (.slice none 0 0) ([])] := (show Hold w [] wb ([rR u8 5 (.slice none 0 0) ([])] ++ [rB g2 49 ([v, u])]) from Hold.re H4 [1, 0] (by rfl) (by rfl)).drop
        clear H4
        exact fin1 (v := .slice none 0 0) Try.results79 rfl ⟨5, H5⟩
      · have hv : vdisk xs ps = true := by simpa using h1
        rw [show drD xs ps b = readD xs ps b from if_pos ⟨hv, by omega, by omega⟩]
        have V := VD.of hv
        have hb := V.at (b := b) ⟨by omega, by omega⟩
        have h64 : ∀ x, x ∈ ps → x.2.length = 64 := fun x hx => (V.ok x hx).2.2
        have hL := readD_len (xs := xs) (ps := ps) (b := b) hb h64
        refine sk (sq ?_)
        refine gen (fun ρ => ρ 1 = .int .i64 b ∧ ρ 2 = .pointer (some ⟨g2, 0, none⟩) ∧ ρ 4 = .slice none 0 0 ∧ True) ⟨rfl, rfl, rfl, trivial⟩ ?_
        rintro ρ ⟨z1, z2, z4, -⟩
        have b6 : B wb g2 49 ([v, u]) := Hold.blk H3 0 rfl
        refine rg (r (lab [v, u] Try.underlying49 rfl ti49 z2 b6 rfl rfl) (cl go131 (spin (hx.t (Hold.ch H3)) (hp.t (Hold.ch H3)) lx hlp lxx) (ac rfl an) ?_))
        rintro r ws ⟨g, dv, wv, mg, rfl, Hs1⟩
        have H4 : Hold w [] ws [rB g2 49 ([v, u]), rB g 183 ([dv, wv, .map (some mg)]), rR u8 5 dv xs, rR kW 112 wv ps, rM mg (yng ps)] := Hold.news H3 Hs1
        clear H3
        clear Hs1
        have b9 : B ws g 183 ([dv, wv, .map (some mg)]) := Hold.blk H4 1 rfl
        have b10 : MpI ws mg (yng ps) := Hold.mp H4 4 rfl
        obtain ⟨_, R11⟩ : ∃ F, Kd.R u8 ws F dv xs := Hold.row H4 2 rfl
        obtain ⟨_, R12⟩ : ∃ F, Kd.R kW ws F wv ps := Hold.row H4 3 rfl
        refine r (mv z1) (cl go132 (platter_read b9 b10 R11 R12 lx ⟨by omega, hb⟩ h64) (ac rfl (ac rfl an)) ?_)
        rintro r wr ⟨rfl, cr⟩
        have H5 : Hold w [] wr [rB g2 49 ([v, u]), rB g 183 ([dv, wv, .map (some mg)]), rR u8 5 dv xs, rR kW 112 wv ps, rM mg (yng ps)] := Hold.t H4 cr
        clear H4
        clear cr
        refine ef (xal ti121) ?_
        rintro _ w13 ⟨g5, e13, rfl, -, b13, c13⟩
        have H6 : Hold w [] w13 [rB g2 49 ([v, u]), rB g 183 ([dv, wv, .map (some mg)]), rR u8 5 dv xs, rR kW 112 wv ps, rM mg (yng ps), rB g5 121 (byts (List.replicate 64 0))] := Hold.newB H5 e13 b13 c13
        clear H5
        clear e13 b13 c13
        have b14 : B w13 g5 121 (byts (List.replicate 64 0)) := Hold.blk H6 5 rfl
        refine ef0 (xsta ti121 rfl rfl hL b14 (by simp)) ?_
        rintro w15 ⟨-, b15, c15⟩
        have H7 : Hold w [] w15 [rB g2 49 ([v, u]), rB g 183 ([dv, wv, .map (some mg)]), rR u8 5 dv xs, rR kW 112 wv ps, rM mg (yng ps), rB g5 121 (byts (readD xs ps b))] := Hold.setB H6 5 rfl b15 c15 rfl
        clear H6
        clear b15 c15
        refine re (sq (rg (r (sla Try.underlying121 ti5 rfl) (r (sa rfl) (re (rt ?_))))))
        have H8 : Hold w [] w15 [rB g5 121 (byts (readD xs ps b))] := (show Hold w [] w15 ([rB g5 121 (byts (readD xs ps b))] ++ [rB g2 49 ([v, u]), rB g 183 ([dv, wv, .map (some mg)]), rR u8 5 dv xs, rR kW 112 wv ps, rM mg (yng ps)]) from Hold.re H7 [5, 0, 1, 2, 3, 4] (by rfl) (by rfl)).drop
        clear H7
        have H9 : Hold w [] w15 [rR u8 121 (.slice (some ⟨g5, 0, none⟩) 64 64) (readD xs ps b)] := Hold.asrow (dk := u8) (xs := readD xs ps b) (m := 64) H8 0 rfl (els_int (readD xs ps b)) ⟨hL, Nat.le_of_ble_eq_true rfl⟩ rfl
        clear H8
        exact fin1 (v := .slice (some ⟨g5, 0, none⟩) 64 64) Try.results79 rfl ⟨121, H9⟩
theorem spec_DiskRead {w : World} {F G : List Nat} {v u : Value} {xs : List Int} {ps : List Wr} {b : Int} (hx : u8.R w F v xs) (hp : kW.R w G u ps) (lx : xs.length ≤ 1000000000) (hlp : ps.length ≤ 2000000) (lxx : ∀ x, x ∈ ps → x.2.length ≤ 1000000000) : Ret Try.prog 78 #[.agg #[v, u], .int .i64 b] w (fun r w' => ∃ e, Hold w [] w' [rR u8 e r (drD xs ps b)]) := by
  refine enter Try.func78 rfl Try.ntmps78 (by rfl) (by rfl) ?_
  have H0 : Hold w [] w [] := Hold.start w
  refine sq (rg (ef (xbx (t := 49) rfl rfl) ?_))
  rintro _ w1 ⟨g2, e1, rfl, -, b1, c1⟩
  have H1 : Hold w [] w1 [rB g2 49 ([v, u])] := Hold.newB H0 e1 b1 c1
  clear H0
  clear e1 b1 c1
  have b2 : B w1 g2 49 ([v, u]) := Hold.blk H1 0 rfl
  refine r (sa rfl) (re (sq (sq (rg (r (lab [v, u] Try.underlying49 rfl ti49 rfl b2 rfl rfl) (cl go57 (spec_ValidDisk (hx.t (Hold.ch H1)) (hp.t (Hold.ch H1)) lx (by omega) lxx) (ac rfl an) ?_))))))
  rintro r wv ⟨rfl, cv⟩
  have H2 : Hold w [] wv [rB g2 49 ([v, u])] := Hold.t H1 cv
  clear H1
  clear cv
  refine r (nt rfl) (r (mv rfl) ?_)
  refine spb 10 rfl (fun h1 => ?_) (fun h1 => ?_)
  · rw [show drD xs ps b = [] from if_neg (fun e => by simp [e.1] at h1)]
    refine gn rfl rfl rfl (gn rfl rfl rfl (r (pk rfl rfl) (r (mv rfl) (gn rfl rfl rfl (gn rfl rfl rfl (gn rfl rfl rfl (gn rfl rfl rfl (r (pk rfl rfl) (re (ct rfl (sq ?_)))))))))))
    refine gen (fun ρ => ρ 1 = .int .i64 b ∧ ρ 2 = .pointer (some ⟨g2, 0, none⟩) ∧ ρ 4 = .slice none 0 0 ∧ True) ⟨rfl, rfl, rfl, trivial⟩ ?_
    rintro ρ ⟨z1, z2, z4, -⟩
    refine rg (ef (xbs0 (dk := u8) Try.underlying40 ti5) ?_)
    rintro v4 w4 N4
    have H3 : Hold w [] w4 [rB g2 49 ([v, u]), rR u8 5 v4 ([])] := Hold.newr H2 N4
    clear H2
    refine r (sa rfl) (re (rt ?_))
    have H4 : Hold w [] w4 [rR u8 5 v4 ([])] := (show Hold w [] w4 ([rR u8 5 v4 ([])] ++ [rB g2 49 ([v, u])]) from Hold.re H3 [1, 0] (by rfl) (by rfl)).drop
    clear H3
    exact fin1 (v := v4) Try.results78 rfl ⟨5, H4⟩
  · refine gy rfl rfl rfl (r (mv rfl) (gy rfl rfl rfl (r (bi rfl rfl rfl) (r (pk rfl rfl) (r (mv rfl) ?_)))))
    refine sp 14 rfl (fun h2 => ?_) (fun h2 => ?_)
    · rw [show drD xs ps b = [] from if_neg (fun e => by have := e.2; omega)]
      refine gn rfl rfl rfl (gn rfl rfl rfl (gn rfl rfl rfl (gn rfl rfl rfl (r (pk rfl rfl) (re (ct rfl (sq ?_)))))))
      refine gen (fun ρ => ρ 1 = .int .i64 b ∧ ρ 2 = .pointer (some ⟨g2, 0, none⟩) ∧ ρ 4 = .slice none 0 0 ∧ True) ⟨rfl, rfl, rfl, trivial⟩ ?_
      rintro ρ ⟨z1, z2, z4, -⟩
      refine rg (ef (xbs0 (dk := u8) Try.underlying40 ti5) ?_)
      rintro v4 w4 N4
      have H3 : Hold w [] w4 [rB g2 49 ([v, u]), rR u8 5 v4 ([])] := Hold.newr H2 N4
      clear H2
      refine r (sa rfl) (re (rt ?_))
      have H4 : Hold w [] w4 [rR u8 5 v4 ([])] := (show Hold w [] w4 ([rR u8 5 v4 ([])] ++ [rB g2 49 ([v, u])]) from Hold.re H3 [1, 0] (by rfl) (by rfl)).drop
      clear H3
      exact fin1 (v := v4) Try.results78 rfl ⟨5, H4⟩
    · have b4 : B wv g2 49 ([v, u]) := Hold.blk H2 0 rfl
      refine gy rfl rfl rfl (r (mv rfl) (gy rfl rfl rfl (r (lab [v, u] Try.underlying49 rfl ti49 rfl b4 rfl rfl) (gy rfl rfl rfl (cl go115 (l1Blocks (hx.t (Hold.ch H2)) lx) (ac rfl an) ?_)))))
      rintro r wb ⟨rfl, cb⟩
      have H3 : Hold w [] wb [rB g2 49 ([v, u])] := Hold.t H2 cb
      clear H2
      clear cb
      refine gy rfl rfl rfl (r (bi rfl rfl rfl) (r (pk rfl rfl) (re ?_)))
      refine cp rfl (fun h3 => ?_) (fun h3 => ?_)
      · rw [show drD xs ps b = [] from if_neg (fun e => by have := e.2; omega)]
        refine sq ?_
        refine gen (fun ρ => ρ 1 = .int .i64 b ∧ ρ 2 = .pointer (some ⟨g2, 0, none⟩) ∧ ρ 4 = .slice none 0 0 ∧ True) ⟨rfl, rfl, rfl, trivial⟩ ?_
        rintro ρ ⟨z1, z2, z4, -⟩
        refine rg (ef (xbs0 (dk := u8) Try.underlying40 ti5) ?_)
        rintro v6 w6 N6
        have H4 : Hold w [] w6 [rB g2 49 ([v, u]), rR u8 5 v6 ([])] := Hold.newr H3 N6
        clear H3
        refine r (sa rfl) (re (rt ?_))
        have H5 : Hold w [] w6 [rR u8 5 v6 ([])] := (show Hold w [] w6 ([rR u8 5 v6 ([])] ++ [rB g2 49 ([v, u])]) from Hold.re H4 [1, 0] (by rfl) (by rfl)).drop
        clear H4
        exact fin1 (v := v6) Try.results78 rfl ⟨5, H5⟩
      · have hv : vdisk xs ps = true := by simpa using h1
        rw [show drD xs ps b = readD xs ps b from if_pos ⟨hv, by omega, by omega⟩]
        have V := VD.of hv
        have hb := V.at (b := b) ⟨by omega, by omega⟩
        have h64 : ∀ x, x ∈ ps → x.2.length = 64 := fun x hx => (V.ok x hx).2.2
        have hL := readD_len (xs := xs) (ps := ps) (b := b) hb h64
        have hlen := V.len
        have htop := V.top
        refine sk (sq ?_)
        refine gen (fun ρ => ρ 1 = .int .i64 b ∧ ρ 2 = .pointer (some ⟨g2, 0, none⟩) ∧ ρ 4 = .slice none 0 0 ∧ True) ⟨rfl, rfl, rfl, trivial⟩ ?_
        rintro ρ ⟨z1, z2, z4, -⟩
        have b6 : B wb g2 49 ([v, u]) := Hold.blk H3 0 rfl
        obtain ⟨F8, us8, R8⟩ := Kd.R.sl (hx.t (Hold.ch H3)) (b.toNat * 64) (b.toNat * 64 + 64) (by first | omega | (simp; omega)) (by first | omega | (simp; omega))
        refine rg (r (fa Try.underlying49 rfl ti40 rfl z2) (r (ldb Try.underlying40 rfl rfl b6 rfl) (r (mv z1) (r (ml (a := b) (b := 64) (((b.toNat * 64 : Nat) : Int)) rfl rfl (by omega)) (r (mv z1) (r (ad (a := b) (b := 1) (b + 1) rfl rfl (by omega)) (r (ml (a := b + 1) (b := 64) (((b.toNat * 64 + 64 : Nat) : Int)) rfl rfl (by omega)) (r (slr (b.toNat * 64) (b.toNat * 64 + 64) Try.underlying40 ti5 (hx.t (Hold.ch H3)) rfl rfl rfl (by omega)) (cl go130 (l1Copy_H R8 (by simp; omega)) (ac rfl an) ?_)))))))))
        rintro r3 wc Hc
        have H4 : Hold w [] wc [rB g2 49 ([v, u]), rR u8 5 r3 ((xs.take (b.toNat * 64 + 64)).drop (b.toNat * 64))] := Hold.news H3 Hc
        clear H3
        clear Hc
        refine r (sa rfl) (re (sq (sq ?_)))
        refine gen (fun ρ => ρ 1 = .int .i64 b ∧ ρ 2 = .pointer (some ⟨g2, 0, none⟩) ∧ ρ 4 = .slice none 0 0 ∧ ρ 5 = r3 ∧ True) ⟨z1, z2, z4, rfl, trivial⟩ ?_
        rintro ρ ⟨z1, z2, z4, z5, -⟩
        refine rg (r (sa rfl) (re (bl ?_)))
        refine lp (α := Nat × Value) (fun (k, o) ρ w' => ρ 2 = .pointer (some ⟨g2, 0, none⟩) ∧ ρ 1 = .int .i64 b ∧ ρ 6 = .int .i64 (k : Int) ∧ ρ 5 = o ∧ Hold w [] w' [rB g2 49 ([v, u]), rR u8 5 o (readD xs (ps.take k) b)] ∧ k ≤ ps.length) (fun (k, o) => ps.length - k) (0, r3) ?_ ?_
        · exact ⟨z2, z1, rfl, z5, H4, by omega⟩
        clear H4
        rintro ⟨k, o⟩ ρ w505 ⟨y2, y1, y6, y5, H5, hk⟩
        have b9 : B w505 g2 49 ([v, u]) := Hold.blk H5 0 rfl
        refine sq (sq (rg (r (mv y6) (r (fa Try.underlying49 rfl ti47 rfl y2) (r (ldb Try.underlying47 rfl rfl b9 rfl) (r (ln Try.underlying47 rfl ((hp.t (Hold.ch H5)))) (r (bi rfl rfl rfl) (re ?_))))))))
        refine cp rfl (fun h => ?_) (fun h => ?_)
        · have hk' : k < ps.length := by omega
          have hl := lxx _ (List.getElem_mem hk')
          have eS : readD xs (ps.take (k + 1)) b = if ps[k].1 = b then ps[k].2 else readD xs (ps.take k) b := by rw [List.take_succ_eq_append_getElem hk', readD_app]
          refine sk (sq (bl (sq (rg (r (fa Try.underlying49 rfl ti47 rfl y2) (r (ldb Try.underlying47 rfl rfl b9 rfl) (r (mv y6) ?_)))))))
          obtain ⟨c40_10, ad40_10, k40_10, e40_10, p40_10⟩ := Kd.R.place hp k (by omega)
          obtain ⟨vd40_10, Fd40_10, Rd40_10, sd40_10, q40_10⟩ := wr_at p40_10
          refine r (ix (j := k) Try.underlying47 ti112 e40_10 rfl (by omega)) (r (fa' Try.underlying112 rfl ti2 rfl rfl) (r (ld Try.underlying2 rfl rfl (Ch.cell (Hold.ch H5) (q40_10 0 _ rfl))) (r (mv y1) (r (bi rfl rfl rfl) (re ?_)))))
          refine cp rfl (fun he => ?_) (fun he => ?_)
          · rw [if_pos he] at eS
            refine gen (fun ρ => ρ 1 = .int .i64 b ∧ ρ 2 = .pointer (some ⟨g2, 0, none⟩) ∧ ρ 5 = o ∧ ρ 6 = .int .i64 (k : Int) ∧ True) ⟨y1, y2, y5, y6, trivial⟩ ?_
            rintro ρ ⟨z1, z2, z5, z6, -⟩
            refine rg (r (fa Try.underlying49 rfl ti47 rfl z2) (r (ldb Try.underlying47 rfl rfl b9 rfl) (r (mv z6) ?_)))
            obtain ⟨c48_11, ad48_11, k48_11, e48_11, p48_11⟩ := Kd.R.place hp k (by omega)
            obtain ⟨vd48_11, Fd48_11, Rd48_11, sd48_11, q48_11⟩ := wr_at p48_11
            refine r (ix (j := k) Try.underlying47 ti112 e48_11 rfl (by omega)) (r (fa' Try.underlying112 rfl ti40 rfl rfl) (r (ld Try.underlying40 rfl rfl (Ch.cell (Hold.ch H5) (q48_11 1 _ rfl))) (cl go130 (l1Copy_H (Rd48_11.t (Hold.ch H5)) hl) (ac rfl an) ?_)))
            rintro r5 wc2 Hc2
            have H6 : Hold w [] wc2 [rB g2 49 ([v, u]), rR u8 5 o (readD xs (ps.take k) b), rR u8 5 r5 (ps[k].2)] := Hold.news H5 Hc2
            clear H5
            clear Hc2
            refine r (sa rfl) (re (be (rg (r (mv z6) (r (ad (a := (k : Int)) (b := 1) ((k : Int) + 1) rfl rfl (by omega)) (r (sa rfl) (re ?_)))))))
            have H7 : Hold w [] wc2 [rB g2 49 ([v, u]), rR u8 5 r5 (ps[k].2)] := (show Hold w [] wc2 ([rB g2 49 ([v, u]), rR u8 5 r5 (ps[k].2)] ++ [rR u8 5 o (readD xs (ps.take k) b)]) from Hold.re H6 [0, 2, 1] (by rfl) (by rfl)).drop
            clear H6
            exact ag (k + 1, r5) ⟨z2, z1, rfl, rfl, (by rw [eS]; exact H7), by omega⟩ (by first | omega | (dsimp only; omega))
          · rw [if_neg he] at eS
            refine sk (be ?_)
            refine gen (fun ρ => ρ 1 = .int .i64 b ∧ ρ 2 = .pointer (some ⟨g2, 0, none⟩) ∧ ρ 5 = o ∧ ρ 6 = .int .i64 (k : Int) ∧ True) ⟨y1, y2, y5, y6, trivial⟩ ?_
            rintro ρ ⟨z1, z2, z5, z6, -⟩
            refine rg (r (mv z6) (r (ad (a := (k : Int)) (b := 1) ((k : Int) + 1) rfl rfl (by omega)) (r (sa rfl) (re ?_))))
            exact ag (k + 1, o) ⟨z2, z1, rfl, z5, (by rw [eS]; exact H5), by omega⟩ (by first | omega | (dsimp only; omega))
        · obtain rfl : k = ps.length := by omega
          have H6 : Hold w [] w505 [rB g2 49 ([v, u]), rR u8 5 o (readD xs ps b)] := (by rw [List.take_length] at H5; exact H5)
          clear H5
          refine ex rfl (sq (rg (r (mv y5) (r (sa rfl) (re (rt ?_))))))
          have H7 : Hold w [] w505 [rR u8 5 o (readD xs ps b)] := (show Hold w [] w505 ([rR u8 5 o (readD xs ps b)] ++ [rB g2 49 ([v, u])]) from Hold.re H6 [1, 0] (by rfl) (by rfl)).drop
          clear H6
          exact fin1 (v := o) Try.results78 rfl ⟨5, H7⟩
end Go.Proofs.Ytgpcanjmgdmdhaa
