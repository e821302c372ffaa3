/-
  CONTRACTS 38: disks, for laws; THE LAW'S WALK: DiskRead. No condition.
-/
import Derived.Test.Ytgpcanjmgdmdhaa37
import Derived.Test.Ytgpcanjmgdmdhaa22
namespace Go.Proofs.Ytgpcanjmgdmdhaa
open Go Go.Eng
set_option maxRecDepth 100000
set_option maxHeartbeats 4000000
set_option linter.unusedVariables false
set_option linter.unusedSimpArgs false
theorem toDisk_H {w : World} {F G : List Nat} {v u : Value} {xs : List Int} {ps : List Wr} (hx : u8.R w F v xs) (hp : kW.R w G u ps) (lx : xs.length ≤ 1000000000) (hlp : ps.length ≤ 1000000000) (lxx : ∀ x, x ∈ ps → x.2.length ≤ 1000000000) :
    Ret Try.prog 58 #[.agg #[v, u]] w (fun r w' => ∃ a b, r = .agg #[a, b] ∧ Hold w [] w' [rR u8 5 a xs, rR kW 112 b ps]) :=
  Calls.mono (toDisk hx hp lx hlp lxx) fun _ _ h => h.imp fun _ h => ⟨h.1, by
    obtain ⟨a, b, F, G, rfl, W1, W2, n1, n2, d, f1, f2⟩ := h.2.1
    exact ⟨a, b, rfl, F ++ G, ⟨F, G, rfl, W1, G, [], by simp, W2, rfl⟩, Turn.new (nodup_app.2 ⟨n1, n2, d⟩) (fun k hk => (List.mem_append.1 hk).elim (f1 k) (f2 k)) h.2.2⟩⟩
theorem markWriteS_H {w : World} {F : List Nat} {u : Value} {ps : List Wr} {k : Int} {e : TypeId} (h : Hs w [rR kW e u ps] F) (n : F.Nodup) (hk : 0 ≤ k ∧ k ≤ 100000000000) (hlp : szW ps ≤ 1000000000) :
    Ret Try.prog 101 #[u, .int .i64 k] w (fun r w' => r = .int .i64 (k + szW ps) ∧ Hold w F w' [rR kW e u (mkW k ps)]) :=
  (markWriteS (e := e) h.one' n hk hlp).mono fun r w' ⟨e1, F', A⟩ => ⟨e1, hold_mut A⟩
theorem markDisk_H {w : World} {F : List Nat} {v u : Value} {xs : List Int} {ps : List Wr} {k : Int} {e e2 : TypeId} (h : Hs w [rR u8 e v xs, rR kW e2 u ps] F) (n : F.Nodup) (hk : 0 ≤ k ∧ k ≤ 1000000) (lx : xs.length ≤ 1000000000) (hlp : szW ps ≤ 1000000000) :
    Ret Try.prog 42 #[.agg #[v, u], .int .i64 k] w (fun r w' => r = .int .i64 (k + xs.length + szW ps) ∧ Hold w F w' [rR u8 e v (marks k xs.length), rR kW e2 u (mkW (k + xs.length) ps)]) := by
  refine enter Try.func42 rfl Try.ntmps42 (by rfl) (by rfl) ?_
  have H0 : Hold w F w [rR u8 e v xs, rR kW e2 u ps] := Hold.begin h n
  refine sq (rg (ef (xbx (t := 49) rfl rfl) ?_))
  rintro _ w1 ⟨g2, e1, rfl, -, b1, c1⟩
  have H1 : Hold w F w1 [rR u8 e v xs, rR kW e2 u ps, rB g2 49 ([v, u])] := Hold.newB H0 e1 b1 c1
  clear H0
  clear e1 b1 c1
  have b2 : B w1 g2 49 ([v, u]) := Hold.blk H1 2 rfl
  obtain ⟨F4, hF4, n4, s4, K4⟩ := Hold.front (Γ := [rR u8 e v xs]) (Δ := [rR kW e2 u ps, rB g2 49 ([v, u])]) H1
  refine r (sa rfl) (re (sq (rg (r (fa Try.underlying49 rfl ti40 rfl rfl) (r (ldb Try.underlying40 rfl rfl b2 rfl) (r (mv rfl) (cl go37 (markByteS_H hF4 n4 (by omega) (by first | assumption | omega | (simp; omega))) (ac rfl (ac rfl an)) ?_)))))))
  rintro r wm3 ⟨rfl, Hm3⟩
  have H2 : Hold w F wm3 [rR u8 e v (marks k xs.length), rR kW e2 u ps, rB g2 49 ([v, u])] := Hold.call K4 Hm3
  clear H1
  clear K4 hF4 n4 s4
  clear Hm3
  have b5 : B wm3 g2 49 ([v, u]) := Hold.blk H2 2 rfl
  have H3 : Hold w F wm3 [rR kW e2 u ps, rR u8 e v (marks k xs.length), rB g2 49 ([v, u])] := Hold.re H2 [1, 0, 2] (by kernel_rfl) (by rfl)
  clear H2
  obtain ⟨F6, hF6, n6, s6, K6⟩ := Hold.front (Γ := [rR kW e2 u ps]) (Δ := [rR u8 e v (marks k xs.length), rB g2 49 ([v, u])]) H3
  refine r (sa rfl) (re (sq (rg (r (fa Try.underlying49 rfl ti47 rfl rfl) (r (ldb Try.underlying47 rfl rfl b5 rfl) (r (mv rfl) (cl go101 (markWriteS_H hF6 n6 (by omega) hlp) (ac rfl (ac rfl an)) ?_)))))))
  rintro r wm2 ⟨rfl, Hm2⟩
  have H4 : Hold w F wm2 [rR kW e2 u (mkW (k + (xs.length : Int)) ps), rR u8 e v (marks k xs.length), rB g2 49 ([v, u])] := Hold.call K6 Hm2
  clear H3
  clear K6 hF6 n6 s6
  clear Hm2
  refine r (sa rfl) (re (sq ?_))
  refine gen (fun ρ => ρ 1 = .int .i64 (k + (xs.length : Int) + (szW ps : Int)) ∧ ρ 4 = .int .i64 0 ∧ True) ⟨rfl, rfl, trivial⟩ ?_
  rintro ρ ⟨z1, z4, -⟩
  refine rg (r (mv z1) (r (sa rfl) (re (rt ?_))))
  have H5 : Hold w F wm2 [rR u8 e v (marks k xs.length), rR kW e2 u (mkW (k + (xs.length : Int)) ps)] := (show Hold w F wm2 ([rR u8 e v (marks k xs.length), rR kW e2 u (mkW (k + (xs.length : Int)) ps)] ++ [rB g2 49 ([v, u])]) from Hold.re H4 [1, 0, 2] (by kernel_rfl) (by rfl)).drop
  clear H4
  exact fin1 (v := .int .i64 (k + (xs.length : Int) + (szW ps : Int))) Try.results42 rfl ⟨rfl, H5⟩
theorem w_FnExactDiskRead {w : World} {F G : List Nat} {v u : Value} {xs : List Int} {ps : List Wr} {b : Int} (hx : u8.R w F v xs) (hp : kW.R w G u ps) (l0 : xs.length ≤ 9223372036854775807) (l1 : ps.length ≤ 9223372036854775807) (l2 : ∀ x, x ∈ ps → x.2.length ≤ 9223372036854775807) :
    Ret Try.prog 17 #[.agg #[v, u], .int .i64 b] w (fun r w' => r = .bool true ∧ Ch [] w w') := by
  refine enter Try.func17 rfl Try.ntmps17 (by rfl) (by rfl) ?_
  have H0 : Hold w [] w [] := Hold.start w
  refine sq (rg (ef (xbx (t := 74) rfl rfl) ?_))
  rintro _ w1 ⟨g2, e1, rfl, -, b1, c1⟩
  have H1 : Hold w [] w1 [rB g2 74 ([v, u])] := Hold.newB H0 e1 b1 c1
  clear H0
  clear e1 b1 c1
  have b2 : B w1 g2 74 ([v, u]) := Hold.blk H1 0 rfl
  refine r (sa rfl) (re (sq (rg (r (sa rfl) (re (sq (rg (r (lab [v, u] Try.underlying74 rfl ti74 rfl b2 rfl rfl) (r (mv rfl) (cl go56 (szDisk (hx.t (Hold.ch H1)) (hp.t (Hold.ch H1)) l0 l1 l2 (by omega)) (ac rfl (ac rfl an)) ?_))))))))))
  rintro r wz ⟨rfl, cz⟩
  have H2 : Hold w [] wz [rB g2 74 ([v, u])] := Hold.t H1 cz
  clear H1
  clear cz
  refine r (sa rfl) (re (sq (sq (rg (r (mv rfl) (r (bi rfl rfl rfl) (re ?_)))))))
  refine cp rfl (fun h => ?_) (fun h => ?_)
  · refine sq (rg (r (sa rfl) (re (rt ?_))))
    exact fin1 (v := .bool true) Try.results17 rfl ⟨rfl, Hold.ch H2⟩
  · have hsz : xs.length + szW ps ≤ 1048576 := by unfold lft at h; split at h <;> omega
    have hlen := szW_len (xs := ps)
    have lx : xs.length ≤ 1000000000 := by omega
    have hlp : ps.length ≤ 2000000 := by omega
    have hlp2 : ps.length ≤ 1000000000 := by omega
    have hsz2 : szW ps ≤ 1000000000 := by omega
    have lxx : ∀ x, x ∈ ps → x.2.length ≤ 1000000000 := fun x hx => by have := szW_mem x hx; omega
    have lR := drD_len (xs := xs) (ps := ps) (b := b)
    have b4 : B wz g2 74 ([v, u]) := Hold.blk H2 0 rfl
    refine sk (sq (rg (r (lab [v, u] Try.underlying74 rfl ti74 rfl b4 rfl rfl) (cl go58 (toDisk_H (hx.t (Hold.ch H2)) (hp.t (Hold.ch H2)) (by first | assumption | omega | (simp; omega)) (by first | assumption | omega | (simp; omega)) (by assumption)) (ac rfl an) ?_))))
    rintro r wt5 ⟨a_5, b_5, rfl, Ht5⟩
    have H3 : Hold w [] wt5 [rB g2 74 ([v, u]), rR u8 5 a_5 xs, rR kW 112 b_5 ps] := Hold.news H2 Ht5
    clear H2
    clear Ht5
    obtain ⟨_, R9⟩ : ∃ F, Kd.R u8 wt5 F a_5 xs := Hold.row H3 1 rfl
    obtain ⟨_, R10⟩ : ∃ F, Kd.R kW wt5 F b_5 ps := Hold.row H3 2 rfl
    refine r (mv rfl) (cl go78 (spec_DiskRead R9 R10 lx hlp lxx) (ac rfl (ac rfl an)) ?_)
    rintro r7 wd7 ⟨e7, Hd7⟩
    have H4 : Hold w [] wd7 [rB g2 74 ([v, u]), rR u8 5 a_5 xs, rR kW 112 b_5 ps, rR u8 e7 r7 (drD xs ps b)] := Hold.news H3 Hd7
    clear H3
    clear Hd7
    refine r (sa rfl) (re (sq ?_))
    refine gen (fun ρ => ρ 1 = .int .i64 b ∧ ρ 2 = .pointer (some ⟨g2, 0, none⟩) ∧ ρ 4 = .bool false ∧ ρ 6 = r7 ∧ True) ⟨rfl, rfl, rfl, rfl, trivial⟩ ?_
    rintro ρ ⟨z1, z2, z4, z6, -⟩
    have b11 : B wd7 g2 74 ([v, u]) := Hold.blk H4 0 rfl
    refine rg (r (lab [v, u] Try.underlying74 rfl ti74 z2 b11 rfl rfl) (cl go58 (toDisk_H (hx.t (Hold.ch H4)) (hp.t (Hold.ch H4)) (by first | assumption | omega | (simp; omega)) (by first | assumption | omega | (simp; omega)) (by assumption)) (ac rfl an) ?_))
    rintro r wt12 ⟨a_12, b_12, rfl, Ht12⟩
    have H5 : Hold w [] wt12 [rB g2 74 ([v, u]), rR u8 5 a_5 xs, rR kW 112 b_5 ps, rR u8 e7 r7 (drD xs ps b), rR u8 5 a_12 xs, rR kW 112 b_12 ps] := Hold.news H4 Ht12
    clear H4
    clear Ht12
    refine ef (xal ti49) ?_
    rintro _ w14 ⟨g7, e14, rfl, -, b14, c14⟩
    have H6 : Hold w [] w14 [rB g2 74 ([v, u]), rR u8 5 a_5 xs, rR kW 112 b_5 ps, rR u8 e7 r7 (drD xs ps b), rR u8 5 a_12 xs, rR kW 112 b_12 ps, rB g7 49 ([.slice none 0 0, .slice none 0 0])] := Hold.newB H5 e14 b14 c14
    clear H5
    clear e14 b14 c14
    have b15 : B w14 g7 49 ([.slice none 0 0, .slice none 0 0]) := Hold.blk H6 6 rfl
    obtain ⟨_, R17⟩ : ∃ F, Kd.R kW w14 F b_12 ps := Hold.row H6 5 rfl
    obtain ⟨_, R18⟩ : ∃ F, Kd.R u8 w14 F a_12 xs := Hold.row H6 4 rfl
    refine ef0 (xst (vs := [a_12, b_12]) ti49 rfl rfl rfl b15 rfl (Nat.le_of_ble_eq_true rfl) (oc (R18).oneCell (oc (R17).oneCell on))) ?_
    rintro w16 ⟨-, b16, c16⟩
    have H7 : Hold w [] w16 [rB g2 74 ([v, u]), rR u8 5 a_5 xs, rR kW 112 b_5 ps, rR u8 e7 r7 (drD xs ps b), rR u8 5 a_12 xs, rR kW 112 b_12 ps, rB g7 49 ([a_12, b_12])] := Hold.setB H6 6 rfl b16 c16 rfl
    clear H6
    clear b16 c16
    have b19 : B w16 g7 49 ([a_12, b_12]) := Hold.blk H7 6 rfl
    obtain ⟨_, R22⟩ : ∃ F, Kd.R u8 w16 F a_12 xs := Hold.row H7 4 rfl
    obtain ⟨_, R23⟩ : ∃ F, Kd.R kW w16 F b_12 ps := Hold.row H7 5 rfl
    refine re (sq (rg (r (lab [a_12, b_12] Try.underlying49 rfl ti49 rfl b19 rfl rfl) (r (mv z1) (cl go79 (impl_DiskRead R22 R23 lx hlp lxx) (ac rfl (ac rfl an)) ?_)))))
    rintro r20 wd20 ⟨e20, Hd20⟩
    have H8 : Hold w [] wd20 [rB g2 74 ([v, u]), rR u8 5 a_5 xs, rR kW 112 b_5 ps, rR u8 e7 r7 (drD xs ps b), rR u8 5 a_12 xs, rR kW 112 b_12 ps, rB g7 49 ([a_12, b_12]), rR u8 e20 r20 (drD xs ps b)] := Hold.news H7 Hd20
    clear H7
    clear Hd20
    obtain ⟨_, R26⟩ : ∃ F, Kd.R u8 wd20 F r20 (drD xs ps b) := Hold.row H8 7 rfl
    obtain ⟨_, R27⟩ : ∃ F, Kd.R u8 wd20 F r7 (drD xs ps b) := Hold.row H8 3 rfl
    refine r (sa rfl) (re (sq (sq (rg (r (mv rfl) (r (mv z6) (cl go36 (eqByteS R26 R27 (by first | assumption | omega | (simp; omega))) (ac rfl (ac rfl an)) ?_)))))))
    rintro r wq24 ⟨rfl, cq24⟩
    have H9 : Hold w [] wq24 [rB g2 74 ([v, u]), rR u8 5 a_5 xs, rR kW 112 b_5 ps, rR u8 e7 r7 (drD xs ps b), rR u8 5 a_12 xs, rR kW 112 b_12 ps, rB g7 49 ([a_12, b_12]), rR u8 e20 r20 (drD xs ps b)] := Hold.t H8 cq24
    clear H8
    clear cq24
    refine r (nt rfl) (re ?_)
    refine cf ((rfl : _ = Value.bool (!(decide (drD xs ps b = drD xs ps b)))).trans (congrArg Value.bool (show (!(decide (drD xs ps b = drD xs ps b))) = false from (by rw [decide_eq_true rfl]; rfl)))) ?_
    refine sk (sq (sq ?_))
    refine gen (fun ρ => ρ 1 = .int .i64 b ∧ ρ 2 = .pointer (some ⟨g2, 0, none⟩) ∧ ρ 4 = .bool false ∧ ρ 6 = r7 ∧ ρ 7 = .pointer (some ⟨g7, 0, none⟩) ∧ ρ 8 = r20 ∧ True) ⟨z1, z2, z4, z6, rfl, rfl, trivial⟩ ?_
    rintro ρ ⟨z1, z2, z4, z6, z7, z8, -⟩
    refine rde mixed ?_
    intro w28 c28
    have H10 : Hold w [] w28 [rB g2 74 ([v, u]), rR u8 5 a_5 xs, rR kW 112 b_5 ps, rR u8 e7 r7 (drD xs ps b), rR u8 5 a_12 xs, rR kW 112 b_12 ps, rB g7 49 ([a_12, b_12]), rR u8 e20 r20 (drD xs ps b)] := Hold.t H9 c28
    clear H9
    clear c28
    have H29d0 : Hold w28 [] w28 [] := Hold.start w28
    refine ⟨fun w' => Ch [] w28 w', Ch.refl _ _, ?_⟩
    have b30 : B w28 g7 49 ([a_12, b_12]) := Hold.blk H10 6 rfl
    have b31 : B w28 g2 74 ([v, u]) := Hold.blk H10 0 rfl
    refine edt 0 rfl (by kernel_rfl) (fun w' hS => lab [a_12, b_12] Try.underlying49 rfl ti49 z7 (hS.b0 b30) rfl rfl) (edt 1 rfl (by kernel_rfl) (fun w' hS => lab [v, u] Try.underlying74 rfl ti74 z2 (hS.b0 b31) rfl rfl) (ed1 2 (by kernel_rfl) <| euc rfl go58 (ac rfl an) (toDisk_H ((hx.t (Hold.ch H10)).t (Hold.ch H29d0)) ((hp.t (Hold.ch H10)).t (Hold.ch H29d0)) (by first | assumption | omega | (simp; omega)) (by first | assumption | omega | (simp; omega)) (by assumption)) ?_))
    rintro r wt32 ⟨a_32, b_32, rfl, Ht32⟩
    have H11d : Hold w28 [] wt32 [rR u8 5 a_32 xs, rR kW 112 b_32 ps] := Hold.news H29d0 Ht32
    clear H29d0
    clear Ht32
    refine ⟨.inr (Hold.ch H11d), ?_⟩
    obtain ⟨_, R36⟩ : ∃ F, Kd.R u8 w28 F a_12 xs := Hold.row H10 4 rfl
    obtain ⟨_, R37⟩ : ∃ F, Kd.R kW w28 F b_12 ps := Hold.row H10 5 rfl
    obtain ⟨_, R38⟩ : ∃ F, Kd.R u8 wt32 F a_32 xs := Hold.row H11d 0 rfl
    obtain ⟨_, R39⟩ : ∃ F, Kd.R kW wt32 F b_32 ps := Hold.row H11d 1 rfl
    refine ed1 3 (by kernel_rfl) <| euc rfl go41 (ac rfl (ac rfl an)) (eqDisk (R36.t (Hold.ch H11d)) (R37.t (Hold.ch H11d)) R38 R39 (by first | assumption | omega | (simp; omega)) (by first | assumption | omega | (simp; omega)) (by assumption)) ?_
    rintro r wq34 ⟨rfl, cq34⟩
    have H12d : Hold w28 [] wq34 [rR u8 5 a_32 xs, rR kW 112 b_32 ps] := Hold.t H11d cq34
    clear H11d
    clear cq34
    refine ⟨.inr (Hold.ch H12d), ?_⟩
    have H13 : Hold w [] wq34 [rB g2 74 ([v, u]), rR u8 5 a_5 xs, rR kW 112 b_5 ps, rR u8 e7 r7 (drD xs ps b), rR u8 5 a_12 xs, rR kW 112 b_12 ps, rB g7 49 ([a_12, b_12]), rR u8 e20 r20 (drD xs ps b), rR u8 5 a_32 xs, rR kW 112 b_32 ps] := Hold.news H10 H12d
    clear H12d H10
    refine ed1 4 (by kernel_rfl) <| eur rfl (nt rfl) (.inl (by kernel_rfl)) ?_
    refine edd (by kernel_rfl) ?_
    refine cf ((rfl : _ = Value.bool (!(decide ((xs, ps) = (xs, ps))))).trans (congrArg Value.bool (show (!(decide ((xs, ps) = (xs, ps)))) = false from (by rw [decide_eq_true rfl]; rfl)))) ?_
    have b40 : B wq34 g7 49 ([a_12, b_12]) := Hold.blk H13 6 rfl
    have H14 : Hold w [] wq34 [rR u8 5 a_12 xs, rR kW 112 b_12 ps, rB g2 74 ([v, u]), rR u8 5 a_5 xs, rR kW 112 b_5 ps, rR u8 e7 r7 (drD xs ps b), rB g7 49 ([a_12, b_12]), rR u8 e20 r20 (drD xs ps b), rR u8 5 a_32 xs, rR kW 112 b_32 ps] := Hold.re H13 [4, 5, 0, 1, 2, 3, 6, 7, 8, 9] (by kernel_rfl) (by rfl)
    clear H13
    obtain ⟨F42, hF42, n42, s42, K42⟩ := Hold.front (Γ := [rR u8 5 a_12 xs, rR kW 112 b_12 ps]) (Δ := [rB g2 74 ([v, u]), rR u8 5 a_5 xs, rR kW 112 b_5 ps, rR u8 e7 r7 (drD xs ps b), rB g7 49 ([a_12, b_12]), rR u8 e20 r20 (drD xs ps b), rR u8 5 a_32 xs, rR kW 112 b_32 ps]) H14
    refine sk (sq (rg (r (sa rfl) (re (sq (rg (r (lab [a_12, b_12] Try.underlying49 rfl ti49 z7 b40 rfl rfl) (r (mv rfl) (cl go42 (markDisk_H hF42 n42 (by omega) (by first | assumption | omega | (simp; omega)) (by first | assumption | omega)) (ac rfl (ac rfl an)) ?_)))))))))
    rintro r wm41 ⟨rfl, Hm41⟩
    have H15 : Hold w [] wm41 [rR u8 5 a_12 (marks 1 xs.length), rR kW 112 b_12 (mkW (1 + xs.length) ps), rB g2 74 ([v, u]), rR u8 5 a_5 xs, rR kW 112 b_5 ps, rR u8 e7 r7 (drD xs ps b), rB g7 49 ([a_12, b_12]), rR u8 e20 r20 (drD xs ps b), rR u8 5 a_32 xs, rR kW 112 b_32 ps] := Hold.call K42 Hm41
    clear H14
    clear K42 hF42 n42 s42
    clear Hm41
    refine r (sa rfl) (re (sq (sq ?_)))
    refine gen (fun ρ => ρ 1 = .int .i64 b ∧ ρ 2 = .pointer (some ⟨g2, 0, none⟩) ∧ ρ 4 = .bool false ∧ ρ 6 = r7 ∧ ρ 8 = r20 ∧ ρ 9 = .int .i64 (1 + (xs.length : Int) + (szW ps : Int)) ∧ True) ⟨z1, z2, z4, z6, z8, rfl, trivial⟩ ?_
    rintro ρ ⟨z1, z2, z4, z6, z8, z9, -⟩
    refine rg (r (mv z9) (r (bi rfl rfl rfl) (r (mv rfl) ?_)))
    refine spf 41 rfl (show (decide ((1 + (xs.length : Int) + (szW ps : Int)) < 0)) = false from (decide_eq_false (by omega))) ?_
    obtain ⟨_, R45⟩ : ∃ F, Kd.R u8 wm41 F r20 (drD xs ps b) := Hold.row H15 7 rfl
    obtain ⟨_, R46⟩ : ∃ F, Kd.R u8 wm41 F r7 (drD xs ps b) := Hold.row H15 5 rfl
    refine gy rfl rfl rfl (r (mv z8) (gy rfl rfl rfl (r (mv z6) (gy rfl rfl rfl (cl go36 (eqByteS R45 R46 (by first | assumption | omega | (simp; omega))) (ac rfl (ac rfl an)) ?_)))))
    rintro r wq43 ⟨rfl, cq43⟩
    have H16 : Hold w [] wq43 [rR u8 5 a_12 (marks 1 xs.length), rR kW 112 b_12 (mkW (1 + xs.length) ps), rB g2 74 ([v, u]), rR u8 5 a_5 xs, rR kW 112 b_5 ps, rR u8 e7 r7 (drD xs ps b), rB g7 49 ([a_12, b_12]), rR u8 e20 r20 (drD xs ps b), rR u8 5 a_32 xs, rR kW 112 b_32 ps] := Hold.t H15 cq43
    clear H15
    clear cq43
    refine gy rfl rfl rfl (r (nt rfl) (r (pk rfl rfl) (re ?_)))
    refine cf ((rfl : _ = Value.bool (!(decide (drD xs ps b = drD xs ps b)))).trans (congrArg Value.bool (show (!(decide (drD xs ps b = drD xs ps b))) = false from (by rw [decide_eq_true rfl]; rfl)))) ?_
    have H17 : Hold w [] wq43 [rR u8 e20 r20 (drD xs ps b), rR u8 5 a_12 (marks 1 xs.length), rR kW 112 b_12 (mkW (1 + xs.length) ps), rB g2 74 ([v, u]), rR u8 5 a_5 xs, rR kW 112 b_5 ps, rR u8 e7 r7 (drD xs ps b), rB g7 49 ([a_12, b_12]), rR u8 5 a_32 xs, rR kW 112 b_32 ps] := Hold.re H16 [7, 0, 1, 2, 3, 4, 5, 6, 8, 9] (by kernel_rfl) (by rfl)
    clear H16
    obtain ⟨F48, hF48, n48, s48, K48⟩ := Hold.front (Γ := [rR u8 e20 r20 (drD xs ps b)]) (Δ := [rR u8 5 a_12 (marks 1 xs.length), rR kW 112 b_12 (mkW (1 + xs.length) ps), rB g2 74 ([v, u]), rR u8 5 a_5 xs, rR kW 112 b_5 ps, rR u8 e7 r7 (drD xs ps b), rB g7 49 ([a_12, b_12]), rR u8 5 a_32 xs, rR kW 112 b_32 ps]) H17
    refine sk (sq (rg (r (sa rfl) (re (sq (rg (r (mv z8) (r (mv rfl) (cl go37 (markByteS_H hF48 n48 (by omega) (by first | assumption | omega | (simp; omega))) (ac rfl (ac rfl an)) ?_)))))))))
    rintro r wm47 ⟨rfl, Hm47⟩
    have H18 : Hold w [] wm47 [rR u8 e20 r20 (marks 1 (drD xs ps b).length), rR u8 5 a_12 (marks 1 xs.length), rR kW 112 b_12 (mkW (1 + xs.length) ps), rB g2 74 ([v, u]), rR u8 5 a_5 xs, rR kW 112 b_5 ps, rR u8 e7 r7 (drD xs ps b), rB g7 49 ([a_12, b_12]), rR u8 5 a_32 xs, rR kW 112 b_32 ps] := Hold.call K48 Hm47
    clear H17
    clear K48 hF48 n48 s48
    clear Hm47
    refine r (sa rfl) (re (sq ?_))
    refine gen (fun ρ => ρ 1 = .int .i64 b ∧ ρ 2 = .pointer (some ⟨g2, 0, none⟩) ∧ ρ 4 = .bool false ∧ ρ 6 = r7 ∧ ρ 8 = r20 ∧ ρ 10 = .int .i64 (1 + ((drD xs ps b).length : Int)) ∧ True) ⟨z1, z2, z4, z6, z8, rfl, trivial⟩ ?_
    rintro ρ ⟨z1, z2, z4, z6, z8, z10, -⟩
    obtain ⟨_, R51⟩ : ∃ F, Kd.R u8 wm47 F r20 (marks 1 (drD xs ps b).length) := Hold.row H18 0 rfl
    refine rg (r (sa rfl) (re (sq (rg (r (mv z8) (r (mv rfl) (cl go38 (heldByteS (n := (drD xs ps b).length) R51 (by omega) (by first | assumption | omega | (simp; omega))) (ac rfl (ac rfl an)) ?_)))))))
    rintro r wh49 ⟨rfl, ch49⟩
    have H19 : Hold w [] wh49 [rR u8 e20 r20 (marks 1 (drD xs ps b).length), rR u8 5 a_12 (marks 1 xs.length), rR kW 112 b_12 (mkW (1 + xs.length) ps), rB g2 74 ([v, u]), rR u8 5 a_5 xs, rR kW 112 b_5 ps, rR u8 e7 r7 (drD xs ps b), rB g7 49 ([a_12, b_12]), rR u8 5 a_32 xs, rR kW 112 b_32 ps] := Hold.t H18 ch49
    clear H18
    clear ch49
    refine r (sa rfl) (re (sq (sq (rg (r (mv rfl) (r (bi rfl rfl rfl) (re ?_)))))))
    refine cf ((rfl : _ = Value.bool (decide ((1 + ((((drD xs ps b).length) : Nat) : Int)) < 0))).trans (congrArg Value.bool (show (decide ((1 + ((((drD xs ps b).length) : Nat) : Int)) < 0)) = false from (decide_eq_false (by omega))))) ?_
    refine sk (sq (sq (rg (r (mv rfl) (r (mv z10) (r (bi rfl rfl rfl) (re ?_)))))))
    refine cf ((rfl : _ = Value.bool (!decide ((1 + ((((drD xs ps b).length) : Nat) : Int)) = (1 + ((drD xs ps b).length : Int))))).trans (congrArg Value.bool (show (!decide ((1 + ((((drD xs ps b).length) : Nat) : Int)) = (1 + ((drD xs ps b).length : Int)))) = false from (by rw [decide_eq_true (by omega)]; rfl)))) ?_
    refine sk (sq ?_)
    refine gen (fun ρ => ρ 1 = .int .i64 b ∧ ρ 2 = .pointer (some ⟨g2, 0, none⟩) ∧ ρ 4 = .bool false ∧ ρ 6 = r7 ∧ True) ⟨z1, z2, z4, z6, trivial⟩ ?_
    rintro ρ ⟨z1, z2, z4, z6, -⟩
    have b52 : B wh49 g2 74 ([v, u]) := Hold.blk H19 3 rfl
    refine rg (r (lab [v, u] Try.underlying74 rfl ti74 z2 b52 rfl rfl) (cl go58 (toDisk_H (hx.t (Hold.ch H19)) (hp.t (Hold.ch H19)) (by first | assumption | omega | (simp; omega)) (by first | assumption | omega | (simp; omega)) (by assumption)) (ac rfl an) ?_))
    rintro r wt53 ⟨a_53, b_53, rfl, Ht53⟩
    have H20 : Hold w [] wt53 [rR u8 e20 r20 (marks 1 (drD xs ps b).length), rR u8 5 a_12 (marks 1 xs.length), rR kW 112 b_12 (mkW (1 + xs.length) ps), rB g2 74 ([v, u]), rR u8 5 a_5 xs, rR kW 112 b_5 ps, rR u8 e7 r7 (drD xs ps b), rB g7 49 ([a_12, b_12]), rR u8 5 a_32 xs, rR kW 112 b_32 ps, rR u8 5 a_53 xs, rR kW 112 b_53 ps] := Hold.news H19 Ht53
    clear H19
    clear Ht53
    obtain ⟨_, R57⟩ : ∃ F, Kd.R u8 wt53 F a_53 xs := Hold.row H20 10 rfl
    obtain ⟨_, R58⟩ : ∃ F, Kd.R kW wt53 F b_53 ps := Hold.row H20 11 rfl
    refine r (mv z1) (cl go79 (impl_DiskRead R57 R58 lx hlp lxx) (ac rfl (ac rfl an)) ?_)
    rintro r55 wd55 ⟨e55, Hd55⟩
    have H21 : Hold w [] wd55 [rR u8 e20 r20 (marks 1 (drD xs ps b).length), rR u8 5 a_12 (marks 1 xs.length), rR kW 112 b_12 (mkW (1 + xs.length) ps), rB g2 74 ([v, u]), rR u8 5 a_5 xs, rR kW 112 b_5 ps, rR u8 e7 r7 (drD xs ps b), rB g7 49 ([a_12, b_12]), rR u8 5 a_32 xs, rR kW 112 b_32 ps, rR u8 5 a_53 xs, rR kW 112 b_53 ps, rR u8 e55 r55 (drD xs ps b)] := Hold.news H20 Hd55
    clear H20
    clear Hd55
    obtain ⟨_, R61⟩ : ∃ F, Kd.R u8 wd55 F r55 (drD xs ps b) := Hold.row H21 12 rfl
    obtain ⟨_, R62⟩ : ∃ F, Kd.R u8 wd55 F r7 (drD xs ps b) := Hold.row H21 6 rfl
    refine r (sa rfl) (re (sq (sq (rg (r (mv rfl) (r (mv z6) (cl go36 (eqByteS R61 R62 (by first | assumption | omega | (simp; omega))) (ac rfl (ac rfl an)) ?_)))))))
    rintro r wq59 ⟨rfl, cq59⟩
    have H22 : Hold w [] wq59 [rR u8 e20 r20 (marks 1 (drD xs ps b).length), rR u8 5 a_12 (marks 1 xs.length), rR kW 112 b_12 (mkW (1 + xs.length) ps), rB g2 74 ([v, u]), rR u8 5 a_5 xs, rR kW 112 b_5 ps, rR u8 e7 r7 (drD xs ps b), rB g7 49 ([a_12, b_12]), rR u8 5 a_32 xs, rR kW 112 b_32 ps, rR u8 5 a_53 xs, rR kW 112 b_53 ps, rR u8 e55 r55 (drD xs ps b)] := Hold.t H21 cq59
    clear H21
    clear cq59
    refine r (nt rfl) (re ?_)
    refine cf ((rfl : _ = Value.bool (!(decide (drD xs ps b = drD xs ps b)))).trans (congrArg Value.bool (show (!(decide (drD xs ps b = drD xs ps b))) = false from (by rw [decide_eq_true rfl]; rfl)))) ?_
    refine sk (sq (rg (r (sa rfl) (re (rt ?_)))))
    exact fin1 (v := .bool true) Try.results17 rfl ⟨rfl, Hold.ch H22⟩
end Go.Proofs.Ytgpcanjmgdmdhaa
