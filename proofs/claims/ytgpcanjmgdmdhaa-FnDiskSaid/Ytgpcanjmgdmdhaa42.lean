/-
  CONTRACTS 42: barrier and crash. No condition.
-/
import Derived.Test.Ytgpcanjmgdmdhaa40
namespace Go.Proofs.Ytgpcanjmgdmdhaa
open Go Go.Eng
set_option maxRecDepth 100000
set_option maxHeartbeats 4000000
set_option linter.unusedVariables false
set_option linter.unusedSimpArgs false
def crA (cs : List Int) (i : Nat) : Int := if h : i < cs.length then cs[i] else 0
def crI (cs : List Int) (i : Nat) : Int := if crA cs i < 0 ∨ 64 ≤ crA cs i then 64 else crA cs i
theorem crI_rng (cs : List Int) (i : Nat) : 0 ≤ crI cs i ∧ crI cs i ≤ 64 := by unfold crI; split <;> omega
def dbD (xs : List Int) (ps : List Wr) : Dsk := if vdisk xs ps = true then (stN xs ps (fun _ => 64) ps.length, []) else ([], [])
def dcD (xs : List Int) (ps : List Wr) (cs : List Int) : Dsk := if vdisk xs ps = true ∧ cs.length ≤ 400 then (stN xs ps (fun i => (crI cs i).toNat) ps.length, []) else ([], [])
theorem st_sm {xs : List Int} {ps : List Wr} {f : Nat → Nat} (V : VD xs ps) : Sm (stN xs ps f ps.length, []) := Sm.of (by rw [stN_len V]; exact V.len2) (by simp) (by simp)
theorem dbD_sm {xs : List Int} {ps : List Wr} : Sm (dbD xs ps) := by
  unfold dbD; split
  · rename_i h; exact st_sm (VD.of h)
  · exact Sm.nil
theorem dcD_sm {xs : List Int} {ps : List Wr} {cs : List Int} : Sm (dcD xs ps cs) := by
  unfold dcD; split
  · rename_i h; exact st_sm (VD.of h.1)
  · exact Sm.nil
theorem dbD_yes {xs : List Int} {ps : List Wr} (h : vdisk xs ps = true) : dbD xs ps = (stN xs ps (fun _ => 64) ps.length, []) := if_pos h
theorem dbD_no {xs : List Int} {ps : List Wr} (h : ¬ vdisk xs ps = true) : dbD xs ps = ([], []) := if_neg h
theorem dcD_yes {xs : List Int} {ps : List Wr} {cs : List Int} (h : vdisk xs ps = true ∧ cs.length ≤ 400) : dcD xs ps cs = (stN xs ps (fun i => (crI cs i).toNat) ps.length, []) := if_pos h
theorem dcD_no {xs : List Int} {ps : List Wr} {cs : List Int} (h : ¬ (vdisk xs ps = true ∧ cs.length ≤ 400)) : dcD xs ps cs = ([], []) := if_neg h
theorem setl_0 {xs : List Int} {x : Wr} : setl xs x 0 = xs := by simp [setl]
def cutF (cs : List Int) (i : Nat) : Nat := (crA cs i).toNat
theorem barrier_1 {w : World} {i : Int} : Ret Try.prog 157 #[.int .i64 i] w (fun r w' => r = .int .i64 64 ∧ Ch [] w w') := by
  refine enter Try.func157 rfl Try.ntmps157 (by rfl) (by rfl) ?_
  have H0 : Hold w [] w [] := Hold.start w
  refine sq (rg (r (sa rfl) (re (sq (rg (r (sa rfl) (re (rt ?_))))))))
  exact fin1 (v := .int .i64 64) Try.results157 rfl ⟨rfl, Hold.ch H0⟩
theorem platter_barrier {w : World} {F : List Nat} {g mg : Nat} {dv wv : Value} {xs : List Int} {ps : List Wr} (h : Hs w [rB g 183 [dv, wv, .map (some mg)], rR u8 5 dv xs, rR kW 112 wv ps, rM mg (yng ps)] F) (nd : F.Nodup) (V : VD xs ps) :
    Ret Try.prog 135 #[.pointer (some ⟨g, 0, none⟩)] w (fun r w' => Hold w F w' [rB g 183 [dv, (.slice none 0 0), .map (some mg)], rR u8 5 dv (stN xs ps (fun _ => 64) ps.length), rR kW 112 (.slice none 0 0) ([]), rM mg (yng ([]))]) := by
  refine enter Try.func135 rfl Try.ntmps135 (by rfl) (by rfl) ?_
  have H0 : Hold w F w [rB g 183 ([dv, wv, .map (some mg)]), rR u8 5 dv xs, rR kW 112 wv ps, rM mg (yng ps)] := Hold.begin h nd
  obtain ⟨F1, hF1, n1, s1, K1⟩ := Hold.front (Γ := [rB g 183 ([dv, wv, .map (some mg)]), rR u8 5 dv xs, rR kW 112 wv ps, rM mg (yng ps)]) (Δ := []) H0
  refine rg (r (mv rfl) (cl go156 (settle (fc := 157) (cap := []) (f := fun _ => 64) hF1 n1 V go157 (fun _ _ => Nat.le_refl _) (fun w1 i c hi => barrier_1)) (ac rfl (ac rfl an)) ?_))
  rintro _ ws Hs1
  have H1 : Hold w F ws [rB g 183 ([dv, (.slice none 0 0), .map (some mg)]), rR u8 5 dv (stN xs ps (fun _ => 64) ps.length), rR kW 112 (.slice none 0 0) ([]), rM mg (yng ([]))] := Hold.call K1 Hs1
  clear H0
  clear K1 hF1 n1 s1
  clear Hs1
  refine re ?_
  exact fin0 Try.results135 H1
theorem crash_1 {w : World} {G : List Nat} {g : Nat} {T : TypeId} {cv : Value} {cs : List Int} {i : Nat} (hB : B w g T [cv]) (hx : i64.R w G cv cs) : Ret Try.prog 159 #[.int .i64 (i : Int), .pointer (some ⟨g, 0, none⟩)] w (fun r w' => r = .int .i64 (crI cs i) ∧ Ch [] w w') := by
  refine enter Try.func159 rfl Try.ntmps159 (by rfl) (by rfl) ?_
  have H0 : Hold w [] w [] := Hold.start w
  refine sq (rg (r (sa rfl) (re (sq (rg (r (sa rfl) (re (sq (sq (rg (r (mv rfl) (r (ldb Try.underlying22 rfl rfl ((Hold.ch H0).b0 hB) rfl) (r (ln Try.underlying22 rfl ((hx.t (Hold.ch H0)))) (r (bi rfl rfl rfl) (re ?_)))))))))))))))
  refine cp rfl (fun h => ?_) (fun h => ?_)
  · have hi' : i < cs.length := by omega
    have eA : crA cs i = cs[i] := dif_pos hi'
    refine rg (r (ldb Try.underlying22 rfl rfl ((Hold.ch H0).b0 hB) rfl) (r (mv rfl) ?_))
    obtain ⟨c11_1, ad11_1, k11_1, e11_1, p11_1⟩ := Kd.R.place hx i (by omega)
    refine r (ix (j := i) Try.underlying22 ti2 e11_1 rfl (by omega)) (r (ld Try.underlying2 rfl rfl (Ch.cell (Hold.ch H0) p11_1.cell)) (r (sa rfl) (re (sq (sq ?_)))))
    refine gen (fun ρ => ρ 3 = .int .i64 0 ∧ ρ 4 = .int .i64 (cs[i]) ∧ True) ⟨rfl, rfl, trivial⟩ ?_
    rintro ρ ⟨z3, z4, -⟩
    refine rg (r (mv z4) (r (bi rfl rfl rfl) (r (mv rfl) ?_)))
    refine sp 15 rfl (fun k0 => ?_) (fun k0 => ?_)
    · refine gn rfl rfl rfl (gn rfl rfl rfl (r (pk rfl rfl) (re (ct rfl (rg (r (sa rfl) (re (sq (rg (r (mv rfl) (r (sa rfl) (re (rt ?_)))))))))))))
      have e9 : 64 = crI cs i := by unfold crI; rw [eA]; split <;> omega
      exact fin1 (v := .int .i64 64) Try.results159 rfl ⟨congrArg (Value.int .i64) e9, Hold.ch H0⟩
    · refine gy rfl rfl rfl (r (mv z4) (gy rfl rfl rfl (r (bi rfl rfl rfl) (r (pk rfl rfl) (re ?_)))))
      refine cp rfl (fun k1 => ?_) (fun k1 => ?_)
      · refine rg (r (sa rfl) (re (sq (rg (r (mv rfl) (r (sa rfl) (re (rt ?_))))))))
        have e9 : 64 = crI cs i := by unfold crI; rw [eA]; split <;> omega
        exact fin1 (v := .int .i64 64) Try.results159 rfl ⟨congrArg (Value.int .i64) e9, Hold.ch H0⟩
      · refine sk (sq (rg (r (mv z4) (r (sa rfl) (re (rt ?_))))))
        have e9 : cs[i] = crI cs i := by unfold crI; rw [eA]; split <;> omega
        exact fin1 (v := .int .i64 (cs[i])) Try.results159 rfl ⟨congrArg (Value.int .i64) e9, Hold.ch H0⟩
  · have eA : crA cs i = 0 := dif_neg (by omega)
    refine sk (sq (sq (rg (r (mv rfl) (r (bi rfl rfl rfl) (r (mv rfl) ?_))))))
    refine sp 15 rfl (fun k0 => ?_) (fun k0 => ?_)
    · refine gn rfl rfl rfl (gn rfl rfl rfl (r (pk rfl rfl) (re (ct rfl ?_))))
      refine gen (fun ρ => ρ 3 = .int .i64 0 ∧ ρ 4 = .int .i64 0 ∧ True) ⟨rfl, rfl, trivial⟩ ?_
      rintro ρ ⟨z3, z4, -⟩
      refine rg (r (sa rfl) (re (sq (rg (r (mv rfl) (r (sa rfl) (re (rt ?_))))))))
      have e9 : 64 = crI cs i := by unfold crI; rw [eA]; split <;> omega
      exact fin1 (v := .int .i64 64) Try.results159 rfl ⟨congrArg (Value.int .i64) e9, Hold.ch H0⟩
    · refine gy rfl rfl rfl (r (mv rfl) (gy rfl rfl rfl (r (bi rfl rfl rfl) (r (pk rfl rfl) (re ?_)))))
      refine cp rfl (fun k1 => ?_) (fun k1 => ?_)
      · refine gen (fun ρ => ρ 3 = .int .i64 0 ∧ ρ 4 = .int .i64 0 ∧ True) ⟨rfl, rfl, trivial⟩ ?_
        rintro ρ ⟨z3, z4, -⟩
        refine rg (r (sa rfl) (re (sq (rg (r (mv rfl) (r (sa rfl) (re (rt ?_))))))))
        have e9 : 64 = crI cs i := by unfold crI; rw [eA]; split <;> omega
        exact fin1 (v := .int .i64 64) Try.results159 rfl ⟨congrArg (Value.int .i64) e9, Hold.ch H0⟩
      · refine sk (sq ?_)
        refine gen (fun ρ => ρ 3 = .int .i64 0 ∧ ρ 4 = .int .i64 0 ∧ True) ⟨rfl, rfl, trivial⟩ ?_
        rintro ρ ⟨z3, z4, -⟩
        refine rg (r (mv z4) (r (sa rfl) (re (rt ?_))))
        have e9 : 0 = crI cs i := by unfold crI; rw [eA]; split <;> omega
        exact fin1 (v := .int .i64 0) Try.results159 rfl ⟨congrArg (Value.int .i64) e9, Hold.ch H0⟩
theorem platter_crash {w : World} {F G : List Nat} {g mg : Nat} {dv wv cv : Value} {xs cs : List Int} {ps : List Wr} (h : Hs w [rB g 183 [dv, wv, .map (some mg)], rR u8 5 dv xs, rR kW 112 wv ps, rM mg (yng ps)] F) (nd : F.Nodup) (V : VD xs ps) (hc : i64.R w G cv cs) (hd : ∀ k, k ∈ G → k ∉ F) :
    Ret Try.prog 141 #[.pointer (some ⟨g, 0, none⟩), cv] w (fun r w' => Hold w F w' [rB g 183 [dv, (.slice none 0 0), .map (some mg)], rR u8 5 dv (stN xs ps (fun i => (crI cs i).toNat) ps.length), rR kW 112 (.slice none 0 0) ([]), rM mg (yng ([]))]) := by
  refine enter Try.func141 rfl Try.ntmps141 (by rfl) (by rfl) ?_
  have H0 : Hold w F w [rB g 183 ([dv, wv, .map (some mg)]), rR u8 5 dv xs, rR kW 112 wv ps, rM mg (yng ps)] := Hold.begin h nd
  refine sq (rg (ef (xbx (t := 22) rfl (cel1 ((hc.tt (Hold.ch H0) hd)).oneCell)) ?_))
  rintro _ w1 ⟨g3, e1, rfl, -, b1, c1⟩
  have H1 : Hold w F w1 [rB g 183 ([dv, wv, .map (some mg)]), rR u8 5 dv xs, rR kW 112 wv ps, rM mg (yng ps), rB g3 22 ([cv])] := Hold.newB H0 e1 b1 c1
  clear H0
  clear e1 b1 c1
  obtain ⟨F2, hF2, n2, K2, X2, s2⟩ := Hold.frontx (Γ := [rB g 183 ([dv, wv, .map (some mg)]), rR u8 5 dv xs, rR kW 112 wv ps, rM mg (yng ps)]) (Δ := [rB g3 22 ([cv])]) H1
  obtain ⟨_, ⟨rfl, bq⟩, xq⟩ := X2 0 (rB g3 22 ([cv])) rfl
  refine re (rg (r (mv rfl) (r (mf (vs := []) (cs := [.pointer (some ⟨g3, 0, none⟩)]) an (ac rfl an)) (cl go156 (settle (fc := 159) (cap := [.pointer (some ⟨g3, 0, none⟩)]) (f := fun i => (crI cs i).toNat) hF2 n2 V go159 (fun i _ => by have := crI_rng cs i; omega) (fun w1 i c hi => Calls.mono (crash_1 (i := i) (c.b bq (xq _ (by simp))) ((hc.tt (Hold.ch H1) hd).tt c (dis_of hc.lt hd s2))) fun _ _ h => h.imp fun _ h => ⟨h.1, by rw [h.2.1]; congr 1; have := crI_rng cs i; omega, h.2.2⟩)) (ac rfl (ac rfl an)) ?_))))
  rintro _ ws Hs1
  have H2 : Hold w F ws [rB g 183 ([dv, (.slice none 0 0), .map (some mg)]), rR u8 5 dv (stN xs ps (fun i => (crI cs i).toNat) ps.length), rR kW 112 (.slice none 0 0) ([]), rM mg (yng ([])), rB g3 22 ([cv])] := Hold.call K2 Hs1
  clear H1
  clear K2 hF2 n2 s2
  clear Hs1
  refine re ?_
  have H3 : Hold w F ws [rB g 183 ([dv, (.slice none 0 0), .map (some mg)]), rR u8 5 dv (stN xs ps (fun i => (crI cs i).toNat) ps.length), rR kW 112 (.slice none 0 0) ([]), rM mg (yng ([]))] := (show Hold w F ws ([rB g 183 ([dv, (.slice none 0 0), .map (some mg)]), rR u8 5 dv (stN xs ps (fun i => (crI cs i).toNat) ps.length), rR kW 112 (.slice none 0 0) ([]), rM mg (yng ([]))] ++ [rB g3 22 ([cv])]) from Hold.re H2 [0, 1, 2, 3, 4] (by kernel_rfl) (by rfl)).drop
  clear H2
  exact fin0 Try.results141 H3
theorem l1Settle {w : World} {F G F2 : List Nat} {v u cv : Value} {xs cs : List Int} {ps : List Wr} (hx : u8.R w F v xs) (hp : kW.R w G u ps) (hc : i64.R w F2 cv cs) (V : VD xs ps) (lc : cs.length = ps.length) (hr : ∀ i, i < ps.length → 0 ≤ crA cs i ∧ crA cs i ≤ 64) :
    Ret Try.prog 138 #[.agg #[v, u], cv] w (fun r w' => ∃ a c, r = .agg #[a, c] ∧ Hold w [] w' [rR u8 5 a ((stN xs ps (cutF cs) ps.length, ([] : List Wr)) : Dsk).1, rR kW 112 c ((stN xs ps (cutF cs) ps.length, ([] : List Wr)) : Dsk).2]) := by
  have hlx := V.len2
  have hnp := V.num
  refine enter Try.func138 rfl Try.ntmps138 (by rfl) (by rfl) ?_
  have H0 : Hold w [] w [] := Hold.start w
  refine sq (rg (ef (xbx (t := 49) rfl rfl) ?_))
  rintro _ w1 ⟨g2, e1, rfl, -, b1, c1⟩
  have H1 : Hold w [] w1 [rB g2 49 ([v, u])] := Hold.newB H0 e1 b1 c1
  clear H0
  clear e1 b1 c1
  refine ef (xal ti49) ?_
  rintro _ w2 ⟨g4, e2, rfl, -, b2, c2⟩
  have H2 : Hold w [] w2 [rB g2 49 ([v, u]), rB g4 49 ([.slice none 0 0, .slice none 0 0])] := Hold.newB H1 e2 b2 c2
  clear H1
  clear e2 b2 c2
  have b3 : B w2 g2 49 ([v, u]) := Hold.blk H2 0 rfl
  refine re (sq (rg (r (fa Try.underlying49 rfl ti40 rfl rfl) (r (ldb Try.underlying40 rfl rfl b3 rfl) (cl go130 (l1Copy_H (hx.t (Hold.ch H2)) (by omega)) (ac rfl an) ?_)))))
  rintro r3 wc Hc
  have H3 : Hold w [] wc [rB g2 49 ([v, u]), rB g4 49 ([.slice none 0 0, .slice none 0 0]), rR u8 5 r3 xs] := Hold.news H2 Hc
  clear H2
  clear Hc
  obtain ⟨_, R5⟩ : ∃ F, Kd.R u8 wc F r3 xs := Hold.row H3 2 rfl
  refine r (bd (r := [r3, .slice none 0 0]) ti49 pl49 (pc rfl (cel1 (R5).oneCell) pn) rfl) (ef (xal ti49) ?_)
  rintro _ w6 ⟨g5, e6, rfl, -, b6, c6⟩
  have H4 : Hold w [] w6 [rB g2 49 ([v, u]), rB g4 49 ([.slice none 0 0, .slice none 0 0]), rR u8 5 r3 xs, rB g5 49 ([.slice none 0 0, .slice none 0 0])] := Hold.newB H3 e6 b6 c6
  clear H3
  clear e6 b6 c6
  have b7 : B w6 g5 49 ([.slice none 0 0, .slice none 0 0]) := Hold.blk H4 3 rfl
  obtain ⟨_, R9⟩ : ∃ F, Kd.R u8 w6 F r3 xs := Hold.row H4 2 rfl
  refine ef0 (xst (vs := [r3, .slice none 0 0]) ti49 rfl rfl rfl b7 rfl (Nat.le_of_ble_eq_true rfl) (oc (R9).oneCell (oc rfl on))) ?_
  rintro w8 ⟨-, b8, c8⟩
  have H5 : Hold w [] w8 [rB g2 49 ([v, u]), rB g4 49 ([.slice none 0 0, .slice none 0 0]), rR u8 5 r3 xs, rB g5 49 ([r3, .slice none 0 0])] := Hold.setB H4 3 rfl b8 c8 rfl
  clear H4
  clear b8 c8
  refine re (sq (sq (rg (r (sa rfl) (re (bl ?_))))))
  refine lp (α := Nat) (fun k ρ w' => ρ 1 = cv ∧ ρ 2 = .pointer (some ⟨g2, 0, none⟩) ∧ ρ 4 = .pointer (some ⟨g4, 0, none⟩) ∧ ρ 5 = .pointer (some ⟨g5, 0, none⟩) ∧ ρ 6 = .int .i64 (k : Int) ∧ Hold w [] w' [rB g2 49 ([v, u]), rB g4 49 ([.slice none 0 0, .slice none 0 0]), rR u8 5 r3 (stN xs ps (cutF cs) k), rB g5 49 ([r3, .slice none 0 0])] ∧ k ≤ ps.length) (fun k => ps.length - k) 0 ?_ ?_
  · exact ⟨rfl, rfl, rfl, rfl, rfl, H5, by omega⟩
  clear H5
  rintro k ρ w506 ⟨y1, y2, y4, y5, y6, H6, hk⟩
  have b10 : B w506 g2 49 ([v, u]) := Hold.blk H6 0 rfl
  refine sq (sq (rg (r (mv y6) (r (fa Try.underlying49 rfl ti47 rfl y2) (r (ldb Try.underlying47 rfl rfl b10 rfl) (r (ln Try.underlying47 rfl ((hp.t (Hold.ch H6)))) (r (bi rfl rfl rfl) (re ?_))))))))
  refine cp rfl (fun h => ?_) (fun h => ?_)
  · have hk' : k < ps.length := by omega
    have hkc : k < cs.length := by omega
    have hw := V.ok _ (List.getElem_mem hk')
    have hb := V.at (b := ps[k].1) ⟨hw.1, hw.2.1⟩
    have hSl := stN_len (f := cutF cs) V k
    have hrk := hr k hk'
    have eA : crA cs k = cs[k] := dif_pos hkc
    have eC : cutF cs k = cs[k].toNat := by rw [cutF, eA]
    have hyl := hw.2.2
    refine sk (sq (bl (sq (rg (r (sa rfl) (re (bl ?_)))))))
    refine lp (α := Nat) (fun j ρ w' => ρ 1 = cv ∧ ρ 2 = .pointer (some ⟨g2, 0, none⟩) ∧ ρ 4 = .pointer (some ⟨g4, 0, none⟩) ∧ ρ 5 = .pointer (some ⟨g5, 0, none⟩) ∧ ρ 6 = .int .i64 (k : Int) ∧ ρ 7 = .int .i64 (j : Int) ∧ Hold w [] w' [rB g2 49 ([v, u]), rB g4 49 ([.slice none 0 0, .slice none 0 0]), rR u8 5 r3 (setl (stN xs ps (cutF cs) k) ps[k] j), rB g5 49 ([r3, .slice none 0 0])] ∧ j ≤ cutF cs k) (fun j => cutF cs k - j) 0 ?_ ?_
    · exact ⟨y1, y2, y4, y5, y6, rfl, (by rw [setl_0]; exact H6), by omega⟩
    clear H6
    rintro j ρ w507 ⟨y1, y2, y4, y5, y6, y7, H7, hj⟩
    refine sq (sq (rg (r (mv y7) (r (mv y1) (r (mv y6) ?_)))))
    obtain ⟨c22_11, ad22_11, k22_11, e22_11, p22_11⟩ := Kd.R.place hc k ((by omega))
    refine r (ix (j := k) Try.underlying22 ti2 e22_11 rfl ((by omega))) (r (ld Try.underlying2 rfl rfl (Ch.cell (Hold.ch H7) p22_11.cell)) (r (bi rfl rfl rfl) (re ?_)))
    refine cp rfl (fun h2 => ?_) (fun h2 => ?_)
    · have hj' : j < ps[k].2.length := by omega
      have hSe := setl_len (xs := stN xs ps (cutF cs) k) (x := ps[k]) (c := j) (by simp only [List.length_take]; omega)
      obtain ⟨bq, hbq⟩ : ∃ q, q = ps[k].1.toNat := ⟨_, rfl⟩
      refine sk (sq (bl ?_))
      refine rde mixed ?_
      intro w12 c12
      have H8 : Hold w [] w12 [rB g2 49 ([v, u]), rB g4 49 ([.slice none 0 0, .slice none 0 0]), rR u8 5 r3 (setl (stN xs ps (cutF cs) k) ps[k] j), rB g5 49 ([r3, .slice none 0 0])] := Hold.t H7 c12
      clear H7
      clear c12
      have H13d0 : Hold w12 [] w12 [] := Hold.start w12
      refine ⟨fun w' => Ch [] w12 w', Ch.refl _ _, ?_⟩
      have b14 : B w12 g5 49 ([r3, .slice none 0 0]) := Hold.blk H8 3 rfl
      have b15 : B w12 g2 49 ([v, u]) := Hold.blk H8 0 rfl
      refine edt 0 rfl (by kernel_rfl) (fun w' hS => fa Try.underlying49 rfl ti40 rfl y5) (edt 1 rfl (by kernel_rfl) (fun w' hS => ldb Try.underlying40 rfl rfl (hS.b0 b14) rfl) (edt 2 rfl (by kernel_rfl) (fun w' hS => fa Try.underlying49 rfl ti47 rfl y2) (edt 3 rfl (by kernel_rfl) (fun w' hS => ldb Try.underlying47 rfl rfl (hS.b0 b15) rfl) (edt 4 rfl (by kernel_rfl) (fun w' hS => mv y6) ?_))))
      obtain ⟨c32_16, ad32_16, k32_16, e32_16, p32_16⟩ := Kd.R.place hp k (by omega)
      obtain ⟨vd32_16, Fd32_16, Rd32_16, sd32_16, q32_16⟩ := wr_at p32_16
      refine edt 5 rfl (by kernel_rfl) (fun w' hS => ix (j := k) Try.underlying47 ti112 e32_16 rfl (by omega)) (edt 6 rfl (by kernel_rfl) (fun w' hS => fa' Try.underlying112 rfl ti2 rfl rfl) (edt 7 rfl (by kernel_rfl) (fun w' hS => ld Try.underlying2 rfl rfl (Ch.cell hS (Ch.cell (Hold.ch H8) (q32_16 0 _ rfl)))) (edt 8 rfl (by kernel_rfl) (fun w' hS => ml (a := (ps[k]).1) (b := 64) (((bq * 64 : Nat) : Int)) rfl rfl (by omega)) (edt 9 rfl (by kernel_rfl) (fun w' hS => mv y7) (edt 10 rfl (by kernel_rfl) (fun w' hS => ad (a := ((bq * 64 : Nat) : Int)) (b := (j : Int)) (((bq * 64 + j : Nat) : Int)) rfl rfl (by omega)) (edt 11 rfl (by kernel_rfl) (fun w' hS => fa Try.underlying49 rfl ti47 rfl y2) (edt 12 rfl (by kernel_rfl) (fun w' hS => ldb Try.underlying47 rfl rfl (hS.b0 b15) rfl) (edt 13 rfl (by kernel_rfl) (fun w' hS => mv y6) ?_))))))))
      obtain ⟨c41_17, ad41_17, k41_17, e41_17, p41_17⟩ := Kd.R.place hp k (by omega)
      obtain ⟨vd41_17, Fd41_17, Rd41_17, sd41_17, q41_17⟩ := wr_at p41_17
      refine edt 14 rfl (by kernel_rfl) (fun w' hS => ix (j := k) Try.underlying47 ti112 e41_17 rfl (by omega)) (edt 15 rfl (by kernel_rfl) (fun w' hS => fa' Try.underlying112 rfl ti40 rfl rfl) (edt 16 rfl (by kernel_rfl) (fun w' hS => ld Try.underlying40 rfl rfl (Ch.cell hS (Ch.cell (Hold.ch H8) (q41_17 1 _ rfl)))) (edt 17 rfl (by kernel_rfl) (fun w' hS => mv y7) ?_)))
      obtain ⟨c45_18, ad45_18, k45_18, e45_18, p45_18⟩ := Kd.R.place Rd41_17 j (hj')
      obtain ⟨_, R19⟩ : ∃ F, Kd.R u8 w12 F r3 (setl (stN xs ps (cutF cs) k) ps[k] j) := Hold.row H8 2 rfl
      refine edt 18 rfl (by kernel_rfl) (fun w' hS => ix (j := j) Try.underlying40 ti5 e45_18 rfl (hj')) (edt 19 rfl (by kernel_rfl) (fun w' hS => ld Try.underlying5 rfl rfl (Ch.cell hS (Ch.cell (Hold.ch H8) p45_18.cell))) ?_)
      obtain ⟨c47_20, ad47_20, k47_20, e47_20, p47_20⟩ := Kd.R.place R19 (bq * 64 + j) ((by omega))
      have H9 : Hold w [] w12 [rB g2 49 ([v, u]), rB g4 49 ([.slice none 0 0, .slice none 0 0]), rR u8 5 r3 (setl (stN xs ps (cutF cs) k) ps[k] j), rB g5 49 ([r3, .slice none 0 0])] := Hold.news H8 H13d0
      clear H13d0 H8
      obtain ⟨F21, P21, n21, s21, K21⟩ := Hold.pick H9 2 rfl
      replace P21 : Kd.W u8 5 w12 F21 r3 (setl (stN xs ps (cutF cs) k) ps[k] j) := P21
      refine edt 20 rfl (by kernel_rfl) (fun w' hS => ix (j := bq * 64 + j) Try.underlying40 ti5 e47_20 rfl ((by omega))) (ed1 21 (by kernel_rfl) <| euf0 rfl (xstw (a := ((ps[k]).2)[j]) (j := bq * 64 + j) ti5 P21 e47_20 rfl (by omega) rfl (show Kd.O u8 _ [] (((ps[k]).2)[j]) _ from ⟨rfl, rfl⟩) (nodup_nil n21)) ?_)
      rintro w22 ⟨-, F22, A22⟩
      have H10 : Hold w [] w22 [rB g2 49 ([v, u]), rB g4 49 ([.slice none 0 0, .slice none 0 0]), rR u8 5 r3 ((setl (stN xs ps (cutF cs) k) ps[k] j).set (bq * 64 + j) (((ps[k]).2)[j])), rB g5 49 ([r3, .slice none 0 0])] := Hold.apd K21 P21 A22 rfl
      clear H9
      clear A22 K21 P21 n21 s21
      refine ⟨.inl (by kernel_rfl), ?_⟩
      refine edd (by kernel_rfl) ?_
      refine be ?_
      refine gen (fun ρ => ρ 1 = cv ∧ ρ 2 = .pointer (some ⟨g2, 0, none⟩) ∧ ρ 4 = .pointer (some ⟨g4, 0, none⟩) ∧ ρ 5 = .pointer (some ⟨g5, 0, none⟩) ∧ ρ 6 = .int .i64 (k : Int) ∧ ρ 7 = .int .i64 (j : Int) ∧ True) ⟨y1, y2, y4, y5, y6, y7, trivial⟩ ?_
      rintro ρ ⟨z1, z2, z4, z5, z6, z7, -⟩
      refine rg (r (mv z7) (r (ad (a := (j : Int)) (b := 1) ((j : Int) + 1) rfl rfl (by omega)) (r (sa rfl) (re ?_))))
      exact ag (j + 1) ⟨z1, z2, z4, z5, z6, rfl, (by rw [← setl_step hj' (by omega), ← hbq]; exact H10), by omega⟩ (by first | omega | (dsimp only; omega))
    · obtain rfl : j = cutF cs k := by omega
      have H8 : Hold w [] w507 [rB g2 49 ([v, u]), rB g4 49 ([.slice none 0 0, .slice none 0 0]), rR u8 5 r3 (stN xs ps (cutF cs) (k + 1)), rB g5 49 ([r3, .slice none 0 0])] := (by rw [stN_succ hk']; exact H7)
      clear H7
      refine ex rfl (be (rg (r (mv y6) (r (ad (a := (k : Int)) (b := 1) ((k : Int) + 1) rfl rfl (by omega)) (r (sa rfl) (re ?_))))))
      exact ag (k + 1) ⟨y1, y2, y4, y5, rfl, H8, by omega⟩ (by first | omega | (dsimp only; omega))
  · obtain rfl : k = ps.length := by omega
    have H7 : Hold w [] w506 [rB g2 49 ([v, u]), rB g4 49 ([.slice none 0 0, .slice none 0 0]), rR u8 5 r3 (stN xs ps (cutF cs) ps.length), rB g5 49 ([r3, .slice none 0 0]), rR kW 112 (.slice none 0 0) ([])] := Hold.nilrow kW 112 H6
    clear H6
    have b11 : B w506 g5 49 ([r3, .slice none 0 0]) := Hold.blk H7 3 rfl
    have b12 : B w506 g4 49 ([.slice none 0 0, .slice none 0 0]) := Hold.blk H7 1 rfl
    obtain ⟨_, R14⟩ : ∃ F, Kd.R kW w506 F (.slice none 0 0) ([]) := Hold.row H7 4 rfl
    obtain ⟨_, R15⟩ : ∃ F, Kd.R u8 w506 F r3 (stN xs ps (cutF cs) ps.length) := Hold.row H7 2 rfl
    refine ex rfl (sq (rg (r (lab [r3, .slice none 0 0] Try.underlying49 rfl ti49 y5 b11 rfl rfl) (ef0 (xst (vs := [r3, .slice none 0 0]) ti49 y4 rfl rfl b12 rfl (Nat.le_of_ble_eq_true rfl) (oc (R15).oneCell (oc (R14).oneCell on))) ?_))))
    rintro w13 ⟨-, b13, c13⟩
    have H8 : Hold w [] w13 [rB g2 49 ([v, u]), rB g4 49 ([r3, .slice none 0 0]), rR u8 5 r3 (stN xs ps (cutF cs) ps.length), rB g5 49 ([r3, .slice none 0 0]), rR kW 112 (.slice none 0 0) ([])] := Hold.setB H7 1 rfl b13 c13 rfl
    clear H7
    clear b13 c13
    refine re (rt ?_)
    have b16 : B w13 g4 49 ([r3, .slice none 0 0]) := Hold.blk H8 1 rfl
    have H9 : Hold w [] w13 [rR u8 5 r3 (stN xs ps (cutF cs) ps.length), rR kW 112 (.slice none 0 0) ([])] := (show Hold w [] w13 ([rR u8 5 r3 (stN xs ps (cutF cs) ps.length), rR kW 112 (.slice none 0 0) ([])] ++ [rB g2 49 ([v, u]), rB g4 49 ([r3, .slice none 0 0]), rB g5 49 ([r3, .slice none 0 0])]) from Hold.re H8 [2, 4, 0, 1, 3] (by kernel_rfl) (by rfl)).drop
    clear H8
    exact finc  (cs := [r3, .slice none 0 0]) Try.results138 Try.underlying49 rfl ti49 y4 b16 rfl  ⟨_, _, rfl, H9⟩
end Go.Proofs.Ytgpcanjmgdmdhaa
