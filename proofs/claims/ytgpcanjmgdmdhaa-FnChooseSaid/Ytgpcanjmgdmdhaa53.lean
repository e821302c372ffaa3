/-
  CONTRACTS 53: the reference's FreeLids; THE LAW'S WALK: FreeLids. No condition.
-/
import Derived.Test.Ytgpcanjmgdmdhaa52
import Derived.Test.Ytgpcanjmgdmdhaa22
namespace Go.Proofs.Ytgpcanjmgdmdhaa
open Go Go.Eng
set_option maxRecDepth 100000
set_option maxHeartbeats 4000000
set_option linter.unusedVariables false
set_option linter.unusedSimpArgs false
theorem flD_len (t : List (Int × Bool)) (n : Int) : (flD t n).length ≤ t.length := by
  have := freeN_len t t.length
  unfold flD; split
  · simp
  · split
    · simp; omega
    · simp
theorem flD_out {t : List (Int × Bool)} {n : Int} {i : Nat} (hi : i ≤ t.length) (hl : ((freeN t i).length : Int) ≤ n ∨ freeN t i = []) (he : n ≤ ((freeN t i).length : Int) ∨ i = t.length) (h0 : 0 ≤ n) (hb : ¬ ((freeN t i).length : Int) < n) : freeN t i = flD t n := by
  obtain ⟨h1, h2⟩ := freeN_pre (t := t) (i := i) t.length hi
  unfold flD
  by_cases hn : n ≤ 0
  · rw [if_pos hn]
    rcases hl with hl | hl
    · exact List.eq_nil_of_length_eq_zero (by omega)
    · exact hl
  · rw [if_neg hn, if_pos (by omega)]
    rcases hl with hl | hl
    · rw [show n.toNat = (freeN t i).length by omega, h1]
    · rw [hl] at hb; simp at hb; omega
theorem flD_few {t : List (Int × Bool)} {n : Int} {i : Nat} (he : n ≤ ((freeN t i).length : Int) ∨ i = t.length) (h : n < 0 ∨ ((freeN t i).length : Int) < n) : flD t n = [] := by
  unfold flD
  split
  · rfl
  · split
    · rcases he with he | rfl <;> omega
    · rfl
theorem spec_FreeLids {w : World} {F : List Nat} {v : Value} {t : List (Int × Bool)} {n : Int} (hx : kE.R w F v t) (lt : t.length ≤ 1000000000) :
    Ret Try.prog 45 #[v, .int .i64 n] w (fun r w' => ∃ e, Hold w [] w' [rR i64 e r (flD t n)]) := by
  refine enter Try.func45 rfl Try.ntmps45 (by rfl) (by rfl) ?_
  have H0 : Hold w [] w [] := Hold.start w
  refine sq (rg (r (sa rfl) (re (sq (rg (ef (xbs0 (dk := i64) Try.underlying22 ti2) ?_))))))
  rintro v1 w1 N1
  have H1 : Hold w [] w1 [rR i64 2 v1 ([])] := Hold.newr H0 N1
  clear H0
  refine r (sa rfl) (re (sq (sq (rg (r (sa rfl) (re (bl ?_)))))))
  refine lp (α := Nat × Value) (fun (i, o) ρ w' => ρ 0 = v ∧ ρ 1 = .int .i64 n ∧ ρ 5 = o ∧ ρ 6 = .int .i64 (i : Int) ∧ Hold w [] w' [rR i64 2 o (freeN t i)] ∧ i ≤ t.length ∧ (((freeN t i).length : Int) ≤ n ∨ freeN t i = [])) (fun (i, o) => t.length - i) (0, v1) ?_ ?_
  · exact ⟨rfl, rfl, rfl, rfl, H1, ⟨by omega, .inr rfl⟩⟩
  clear H1
  rintro ⟨i, o⟩ ρ w502 ⟨y0, y1, y5, y6, H2, ⟨hi, hl⟩⟩
  have hfl := freeN_len t i
  refine sq (sq (rg (r (mv y6) (r (mv y0) (r (ln Try.underlying57 rfl ((hx.t (Hold.ch H2)))) (r (bi rfl rfl rfl) (r (mv rfl) ?_)))))))
  refine sp 12 rfl (fun h1 => ?_) (fun h1 => ?_)
  · obtain ⟨_, R2⟩ : ∃ F, Kd.R i64 w502 F o (freeN t i) := Hold.row H2 0 rfl
    refine gy rfl rfl rfl (r (mv y5) (gy rfl rfl rfl (r (ln Try.underlying22 rfl (R2)) (gy rfl rfl rfl (r (mv y1) (gy rfl rfl rfl (r (bi rfl rfl rfl) (r (pk rfl rfl) (re ?_)))))))))
    refine cp rfl (fun h2 => ?_) (fun h2 => ?_)
    · have hi' : i < t.length := by omega
      refine sk (sq (bl (sq ?_)))
      refine gen (fun ρ => ρ 0 = v ∧ ρ 1 = .int .i64 n ∧ ρ 5 = o ∧ ρ 6 = .int .i64 (i : Int) ∧ True) ⟨y0, y1, y5, y6, trivial⟩ ?_
      rintro ρ ⟨z0, z1, z5, z6, -⟩
      refine rg (r (mv z0) (r (mv z6) ?_))
      obtain ⟨c22_3, ad22_3, k22_3, e22_3, p22_3⟩ := Kd.R.place hx i (by omega)
      have q22_3 := en_at p22_3
      refine r (ix (j := i) Try.underlying57 ti70 e22_3 rfl (by omega)) (r (fa' Try.underlying70 rfl ti2 rfl rfl) (r (ld Try.underlying2 rfl rfl (Ch.cell (Hold.ch H2) (q22_3 0 _ rfl))) (r (bi rfl rfl rfl) (re ?_))))
      refine cp rfl (fun hz => ?_) (fun hz => ?_)
      · have eF := freeN_yes hi' hz
        refine rg (r (mv z5) (r (mv z6) (r (ad (a := (i : Int)) (b := 1) ((i : Int) + 1) rfl rfl (by omega)) (ef (xbs1 (cs := [.int .i64 ((i : Int) + 1)]) Try.underlying22 ti2 rfl rfl rfl (cel1 rfl) rfl) ?_))))
        rintro _ w4 ⟨g29, e4, rfl, -, b4, c4⟩
        have H3 : Hold w [] w4 [rR i64 2 o (freeN t i), rB g29 2 ([.int .i64 ((i : Int) + 1)])] := Hold.newB H2 e4 b4 c4
        clear H2
        clear e4 b4 c4
        have b6 : B w4 g29 2 ([.int .i64 ((i : Int) + 1)]) := Hold.blk H3 1 rfl
        obtain ⟨F7, P7, n7, s7, K7⟩ := Hold.pick H3 0 rfl
        replace P7 : Kd.W i64 2 w4 F7 o (freeN t i) := P7
        refine ef (xapb (ys := [(i : Int) + 1]) Try.underlying22 ti2 rfl rfl rfl P7 b6 (els_one (R := Kd.O i64 _) (show Kd.O i64 _ [] ((i : Int) + 1) _ from ⟨rfl, rfl⟩)) (nodup_nil n7) (by simp; omega)) ?_
        rintro v30_5 w5 ⟨F5, A5⟩
        have H4 : Hold w [] w5 [rR i64 2 v30_5 ((freeN t i) ++ [(i : Int) + 1]), rB g29 2 ([.int .i64 ((i : Int) + 1)])] := Hold.apd K7 P7 A5 rfl
        clear H3
        clear A5 K7 P7 n7 s7
        refine r (sa rfl) (re (be ?_))
        refine gen (fun ρ => ρ 0 = v ∧ ρ 1 = .int .i64 n ∧ ρ 5 = v30_5 ∧ ρ 6 = .int .i64 (i : Int) ∧ True) ⟨z0, z1, rfl, z6, trivial⟩ ?_
        rintro ρ ⟨z0, z1, z5, z6, -⟩
        refine rg (r (mv z6) (r (ad (a := (i : Int)) (b := 1) ((i : Int) + 1) rfl rfl (by omega)) (r (sa rfl) (re ?_))))
        have H5 : Hold w [] w5 [rR i64 2 v30_5 ((freeN t i) ++ [(i : Int) + 1])] := (show Hold w [] w5 ([rR i64 2 v30_5 ((freeN t i) ++ [(i : Int) + 1])] ++ [rB g29 2 ([.int .i64 ((i : Int) + 1)])]) from Hold.re H4 [0, 1] (by kernel_rfl) (by rfl)).drop
        clear H4
        exact ag (i + 1, v30_5) ⟨z0, z1, z5, rfl, (by rw [eF]; exact H5), ⟨by omega, .inl (by rw [eF]; simp; omega)⟩⟩ (by first | omega | (dsimp only; omega))
      · have eF := freeN_no hi' hz
        refine sk (be (rg (r (mv z6) (r (ad (a := (i : Int)) (b := 1) ((i : Int) + 1) rfl rfl (by omega)) (r (sa rfl) (re ?_))))))
        exact ag (i + 1, o) ⟨z0, z1, z5, rfl, (by rw [eF]; exact H2), ⟨by omega, by rw [eF]; exact .inl (by omega)⟩⟩ (by first | omega | (dsimp only; omega))
    · refine ex rfl (sq (sq ?_))
      refine gen (fun ρ => ρ 1 = .int .i64 n ∧ ρ 5 = o ∧ True) ⟨y1, y5, trivial⟩ ?_
      rintro ρ ⟨z1, z5, -⟩
      refine rg (r (mv z1) (r (bi rfl rfl rfl) (r (mv rfl) ?_)))
      have he : n ≤ ((freeN t i).length : Int) ∨ i = t.length := .inl (by omega)
      refine sp 33 rfl (fun h3 => ?_) (fun h3 => ?_)
      · refine gn rfl rfl rfl (gn rfl rfl rfl (gn rfl rfl rfl (gn rfl rfl rfl (r (pk rfl rfl) (re (ct rfl (sq (rg (ef (xbs0 (dk := i64) Try.underlying22 ti2) ?_)))))))))
        rintro v3 w3 N3
        have H3 : Hold w [] w3 [rR i64 2 o (freeN t i), rR i64 2 v3 ([])] := Hold.newr H2 N3
        clear H2
        refine r (sa rfl) (re (rt ?_))
        rw [flD_few he (.inl h3)]
        have H4 : Hold w [] w3 [rR i64 2 v3 ([])] := (show Hold w [] w3 ([rR i64 2 v3 ([])] ++ [rR i64 2 o (freeN t i)]) from Hold.re H3 [1, 0] (by kernel_rfl) (by rfl)).drop
        clear H3
        exact fin1 (v := v3) Try.results45 rfl ⟨2, H4⟩
      · refine gy rfl rfl rfl (r (mv z5) (gy rfl rfl rfl (r (ln Try.underlying22 rfl (R2)) (gy rfl rfl rfl (r (mv z1) (gy rfl rfl rfl (r (bi rfl rfl rfl) (r (pk rfl rfl) (re ?_)))))))))
        refine cp rfl (fun h4 => ?_) (fun h4 => ?_)
        · refine sq (rg (ef (xbs0 (dk := i64) Try.underlying22 ti2) ?_))
          rintro v3 w3 N3
          have H3 : Hold w [] w3 [rR i64 2 o (freeN t i), rR i64 2 v3 ([])] := Hold.newr H2 N3
          clear H2
          refine r (sa rfl) (re (rt ?_))
          rw [flD_few he (.inr h4)]
          have H4 : Hold w [] w3 [rR i64 2 v3 ([])] := (show Hold w [] w3 ([rR i64 2 v3 ([])] ++ [rR i64 2 o (freeN t i)]) from Hold.re H3 [1, 0] (by kernel_rfl) (by rfl)).drop
          clear H3
          exact fin1 (v := v3) Try.results45 rfl ⟨2, H4⟩
        · refine sk (sq (rg (r (mv z5) (r (sa rfl) (re (rt ?_))))))
          rw [← flD_out hi hl he (by omega) h4]
          exact fin1 (v := o) Try.results45 rfl ⟨2, H2⟩
  · refine gn rfl rfl rfl (gn rfl rfl rfl (gn rfl rfl rfl (gn rfl rfl rfl (r (pk rfl rfl) (re (cf rfl (ex rfl (sq (sq ?_)))))))))
    refine gen (fun ρ => ρ 1 = .int .i64 n ∧ ρ 5 = o ∧ True) ⟨y1, y5, trivial⟩ ?_
    rintro ρ ⟨z1, z5, -⟩
    refine rg (r (mv z1) (r (bi rfl rfl rfl) (r (mv rfl) ?_)))
    have he : n ≤ ((freeN t i).length : Int) ∨ i = t.length := .inr (by omega)
    refine sp 33 rfl (fun h3 => ?_) (fun h3 => ?_)
    · refine gn rfl rfl rfl (gn rfl rfl rfl (gn rfl rfl rfl (gn rfl rfl rfl (r (pk rfl rfl) (re (ct rfl (sq (rg (ef (xbs0 (dk := i64) Try.underlying22 ti2) ?_)))))))))
      rintro v2 w2 N2
      have H3 : Hold w [] w2 [rR i64 2 o (freeN t i), rR i64 2 v2 ([])] := Hold.newr H2 N2
      clear H2
      refine r (sa rfl) (re (rt ?_))
      rw [flD_few he (.inl h3)]
      have H4 : Hold w [] w2 [rR i64 2 v2 ([])] := (show Hold w [] w2 ([rR i64 2 v2 ([])] ++ [rR i64 2 o (freeN t i)]) from Hold.re H3 [1, 0] (by kernel_rfl) (by rfl)).drop
      clear H3
      exact fin1 (v := v2) Try.results45 rfl ⟨2, H4⟩
    · obtain ⟨_, R2⟩ : ∃ F, Kd.R i64 w502 F o (freeN t i) := Hold.row H2 0 rfl
      refine gy rfl rfl rfl (r (mv z5) (gy rfl rfl rfl (r (ln Try.underlying22 rfl (R2)) (gy rfl rfl rfl (r (mv z1) (gy rfl rfl rfl (r (bi rfl rfl rfl) (r (pk rfl rfl) (re ?_)))))))))
      refine cp rfl (fun h4 => ?_) (fun h4 => ?_)
      · refine sq (rg (ef (xbs0 (dk := i64) Try.underlying22 ti2) ?_))
        rintro v3 w3 N3
        have H3 : Hold w [] w3 [rR i64 2 o (freeN t i), rR i64 2 v3 ([])] := Hold.newr H2 N3
        clear H2
        refine r (sa rfl) (re (rt ?_))
        rw [flD_few he (.inr h4)]
        have H4 : Hold w [] w3 [rR i64 2 v3 ([])] := (show Hold w [] w3 ([rR i64 2 v3 ([])] ++ [rR i64 2 o (freeN t i)]) from Hold.re H3 [1, 0] (by kernel_rfl) (by rfl)).drop
        clear H3
        exact fin1 (v := v3) Try.results45 rfl ⟨2, H4⟩
      · refine sk (sq (rg (r (mv z5) (r (sa rfl) (re (rt ?_))))))
        rw [← flD_out hi hl he (by omega) h4]
        exact fin1 (v := o) Try.results45 rfl ⟨2, H2⟩
theorem w_FnExactFreeLids {w : World} {F : List Nat} {v : Value} {t : List (Int × Bool)} {n : Int} (hx : kE.R w F v t) (l0 : t.length ≤ 9223372036854775807) :
    Ret Try.prog 8 #[v, .int .i64 n] w (fun r w' => r = .bool true ∧ Ch [] w w') := by
  refine enter Try.func8 rfl Try.ntmps8 (by rfl) (by rfl) ?_
  have H0 : Hold w [] w [] := Hold.start w
  refine sq (rg (r (sa rfl) (re (sq (rg (r (sa rfl) (re (sq (rg (r (mv rfl) (r (mv rfl) (cl go44 (szEntryS (hx.t (Hold.ch H0)) l0 (by omega)) (ac rfl (ac rfl an)) ?_))))))))))))
  rintro r wz ⟨rfl, cz⟩
  have H1 : Hold w [] wz [] := Hold.t H0 cz
  clear H0
  clear cz
  refine r (sa rfl) (re (sq (sq (rg (r (mv rfl) (r (bi rfl rfl rfl) (re ?_)))))))
  refine cp rfl (fun h => ?_) (fun h => ?_)
  · refine sq (rg (r (sa rfl) (re (rt ?_))))
    exact fin1 (v := .bool true) Try.results8 rfl ⟨rfl, Hold.ch H1⟩
  · have lt : t.length ≤ 1000000000 := by split at h <;> omega
    have hl := flD_len t n
    refine sk (sq (rg (r (mv rfl) (cl go46 (toEntryS_H (hx.t (Hold.ch H1)) (by first | assumption | omega | (simp; omega))) (ac rfl an) ?_))))
    rintro r2 wt2 Ht2
    have H2 : Hold w [] wt2 [rR kE 70 r2 t] := Hold.news H1 Ht2
    clear H1
    clear Ht2
    obtain ⟨_, R6⟩ : ∃ F, Kd.R kE wt2 F r2 t := Hold.row H2 0 rfl
    refine r (mv rfl) (cl go45 (spec_FreeLids R6 (by first | assumption | omega | (simp; omega))) (ac rfl (ac rfl an)) ?_)
    rintro r4 wd4 ⟨e4, Hd4⟩
    have H3 : Hold w [] wd4 [rR kE 70 r2 t, rR i64 e4 r4 (flD t n)] := Hold.news H2 Hd4
    clear H2
    clear Hd4
    refine r (sa rfl) (re (sq ?_))
    refine gen (fun ρ => ρ 0 = v ∧ ρ 1 = .int .i64 n ∧ ρ 4 = .bool false ∧ ρ 6 = r4 ∧ True) ⟨rfl, rfl, rfl, rfl, trivial⟩ ?_
    rintro ρ ⟨z0, z1, z4, z6, -⟩
    refine rg (r (mv z0) (cl go46 (toEntryS_H (hx.t (Hold.ch H3)) (by first | assumption | omega | (simp; omega))) (ac rfl an) ?_))
    rintro r7 wt7 Ht7
    have H4 : Hold w [] wt7 [rR kE 70 r2 t, rR i64 e4 r4 (flD t n), rR kE 70 r7 t] := Hold.news H3 Ht7
    clear H3
    clear Ht7
    obtain ⟨_, R11⟩ : ∃ F, Kd.R kE wt7 F r7 t := Hold.row H4 2 rfl
    refine r (sa rfl) (re (sq (rg (r (mv rfl) (r (mv z1) (cl go47 (impl_FreeLids R11 (by first | assumption | omega | (simp; omega))) (ac rfl (ac rfl an)) ?_))))))
    rintro r9 wd9 ⟨e9, Hd9⟩
    have H5 : Hold w [] wd9 [rR kE 70 r2 t, rR i64 e4 r4 (flD t n), rR kE 70 r7 t, rR i64 e9 r9 (flD t n)] := Hold.news H4 Hd9
    clear H4
    clear Hd9
    obtain ⟨_, R14⟩ : ∃ F, Kd.R i64 wd9 F r9 (flD t n) := Hold.row H5 3 rfl
    obtain ⟨_, R15⟩ : ∃ F, Kd.R i64 wd9 F r4 (flD t n) := Hold.row H5 1 rfl
    refine r (sa rfl) (re (sq (sq (rg (r (mv rfl) (r (mv z6) (cl go26 (eqInt64S R14 R15 (by first | assumption | omega | (simp; omega))) (ac rfl (ac rfl an)) ?_)))))))
    rintro r wq12 ⟨rfl, cq12⟩
    have H6 : Hold w [] wq12 [rR kE 70 r2 t, rR i64 e4 r4 (flD t n), rR kE 70 r7 t, rR i64 e9 r9 (flD t n)] := Hold.t H5 cq12
    clear H5
    clear cq12
    refine r (nt rfl) (re ?_)
    refine cf ((rfl : _ = Value.bool (!(decide (flD t n = flD t n)))).trans (congrArg Value.bool (show (!(decide (flD t n = flD t n))) = false from (by rw [decide_eq_true rfl]; rfl)))) ?_
    refine sk (sq (sq ?_))
    refine gen (fun ρ => ρ 0 = v ∧ ρ 1 = .int .i64 n ∧ ρ 4 = .bool false ∧ ρ 6 = r4 ∧ ρ 7 = r7 ∧ ρ 8 = r9 ∧ True) ⟨z0, z1, z4, z6, rfl, rfl, trivial⟩ ?_
    rintro ρ ⟨z0, z1, z4, z6, z7, z8, -⟩
    refine rg (r (mv z7) (r (mv z0) (cl go46 (toEntryS_H (hx.t (Hold.ch H6)) (by first | assumption | omega | (simp; omega))) (ac rfl an) ?_)))
    rintro r16 wt16 Ht16
    have H7 : Hold w [] wt16 [rR kE 70 r2 t, rR i64 e4 r4 (flD t n), rR kE 70 r7 t, rR i64 e9 r9 (flD t n), rR kE 70 r16 t] := Hold.news H6 Ht16
    clear H6
    clear Ht16
    obtain ⟨_, R20⟩ : ∃ F, Kd.R kE wt16 F r7 t := Hold.row H7 2 rfl
    obtain ⟨_, R21⟩ : ∃ F, Kd.R kE wt16 F r16 t := Hold.row H7 4 rfl
    refine cl go48 (eqEntryS R20 R21 (by first | assumption | omega | (simp; omega))) (ac rfl (ac rfl an)) ?_
    rintro r wq18 ⟨rfl, cq18⟩
    have H8 : Hold w [] wq18 [rR kE 70 r2 t, rR i64 e4 r4 (flD t n), rR kE 70 r7 t, rR i64 e9 r9 (flD t n), rR kE 70 r16 t] := Hold.t H7 cq18
    clear H7
    clear cq18
    refine r (nt rfl) (re ?_)
    refine cf ((rfl : _ = Value.bool (!(decide (t = t)))).trans (congrArg Value.bool (show (!(decide (t = t))) = false from (by rw [decide_eq_true rfl]; rfl)))) ?_
    have H9 : Hold w [] wq18 [rR kE 70 r7 t, rR kE 70 r2 t, rR i64 e4 r4 (flD t n), rR i64 e9 r9 (flD t n), rR kE 70 r16 t] := Hold.re H8 [2, 0, 1, 3, 4] (by kernel_rfl) (by rfl)
    clear H8
    obtain ⟨F23, hF23, n23, s23, K23⟩ := Hold.front (Γ := [rR kE 70 r7 t]) (Δ := [rR kE 70 r2 t, rR i64 e4 r4 (flD t n), rR i64 e9 r9 (flD t n), rR kE 70 r16 t]) H9
    refine sk (sq (rg (r (sa rfl) (re (sq (rg (r (mv z7) (r (mv rfl) (cl go49 (markEntryS_H hF23 n23 (by omega) (by first | assumption | omega | (simp; omega))) (ac rfl (ac rfl an)) ?_)))))))))
    rintro r wm22 ⟨rfl, Hm22⟩
    have H10 : Hold w [] wm22 [rR kE 70 r7 (marksE 1 t.length), rR kE 70 r2 t, rR i64 e4 r4 (flD t n), rR i64 e9 r9 (flD t n), rR kE 70 r16 t] := Hold.call K23 Hm22
    clear H9
    clear K23 hF23 n23 s23
    clear Hm22
    refine r (sa rfl) (re (sq (sq ?_)))
    refine gen (fun ρ => ρ 0 = v ∧ ρ 1 = .int .i64 n ∧ ρ 4 = .bool false ∧ ρ 6 = r4 ∧ ρ 8 = r9 ∧ ρ 9 = .int .i64 (1 + 2 * (t.length : Int)) ∧ True) ⟨z0, z1, z4, z6, z8, rfl, trivial⟩ ?_
    rintro ρ ⟨z0, z1, z4, z6, z8, z9, -⟩
    refine rg (r (mv z9) (r (bi rfl rfl rfl) (r (mv rfl) ?_)))
    refine spf 41 rfl (show (decide ((1 + 2 * (t.length : Int)) < 0)) = false from (decide_eq_false (by omega))) ?_
    obtain ⟨_, R26⟩ : ∃ F, Kd.R i64 wm22 F r9 (flD t n) := Hold.row H10 3 rfl
    obtain ⟨_, R27⟩ : ∃ F, Kd.R i64 wm22 F r4 (flD t n) := Hold.row H10 2 rfl
    refine gy rfl rfl rfl (r (mv z8) (gy rfl rfl rfl (r (mv z6) (gy rfl rfl rfl (cl go26 (eqInt64S R26 R27 (by first | assumption | omega | (simp; omega))) (ac rfl (ac rfl an)) ?_)))))
    rintro r wq24 ⟨rfl, cq24⟩
    have H11 : Hold w [] wq24 [rR kE 70 r7 (marksE 1 t.length), rR kE 70 r2 t, rR i64 e4 r4 (flD t n), rR i64 e9 r9 (flD t n), rR kE 70 r16 t] := Hold.t H10 cq24
    clear H10
    clear cq24
    refine gy rfl rfl rfl (r (nt rfl) (r (pk rfl rfl) (re ?_)))
    refine cf ((rfl : _ = Value.bool (!(decide (flD t n = flD t n)))).trans (congrArg Value.bool (show (!(decide (flD t n = flD t n))) = false from (by rw [decide_eq_true rfl]; rfl)))) ?_
    have H12 : Hold w [] wq24 [rR i64 e9 r9 (flD t n), rR kE 70 r7 (marksE 1 t.length), rR kE 70 r2 t, rR i64 e4 r4 (flD t n), rR kE 70 r16 t] := Hold.re H11 [3, 0, 1, 2, 4] (by kernel_rfl) (by rfl)
    clear H11
    obtain ⟨F29, hF29, n29, s29, K29⟩ := Hold.front (Γ := [rR i64 e9 r9 (flD t n)]) (Δ := [rR kE 70 r7 (marksE 1 t.length), rR kE 70 r2 t, rR i64 e4 r4 (flD t n), rR kE 70 r16 t]) H12
    refine sk (sq (rg (r (sa rfl) (re (sq (rg (r (mv z8) (r (mv rfl) (cl go50 (markInt64S_H hF29 n29 (by omega) (by first | assumption | omega | (simp; omega))) (ac rfl (ac rfl an)) ?_)))))))))
    rintro r wm28 ⟨rfl, Hm28⟩
    have H13 : Hold w [] wm28 [rR i64 e9 r9 (marks8 1 (flD t n).length), rR kE 70 r7 (marksE 1 t.length), rR kE 70 r2 t, rR i64 e4 r4 (flD t n), rR kE 70 r16 t] := Hold.call K29 Hm28
    clear H12
    clear K29 hF29 n29 s29
    clear Hm28
    refine r (sa rfl) (re (sq ?_))
    refine gen (fun ρ => ρ 0 = v ∧ ρ 1 = .int .i64 n ∧ ρ 4 = .bool false ∧ ρ 6 = r4 ∧ ρ 8 = r9 ∧ ρ 10 = .int .i64 (1 + ((flD t n).length : Int)) ∧ True) ⟨z0, z1, z4, z6, z8, rfl, trivial⟩ ?_
    rintro ρ ⟨z0, z1, z4, z6, z8, z10, -⟩
    obtain ⟨_, R32⟩ : ∃ F, Kd.R i64 wm28 F r9 (marks8 1 (flD t n).length) := Hold.row H13 0 rfl
    refine rg (r (sa rfl) (re (sq (rg (r (mv z8) (r (mv rfl) (cl go51 (heldInt64S (n := (flD t n).length) R32 (by omega) (by first | assumption | omega | (simp; omega))) (ac rfl (ac rfl an)) ?_)))))))
    rintro r wh30 ⟨rfl, ch30⟩
    have H14 : Hold w [] wh30 [rR i64 e9 r9 (marks8 1 (flD t n).length), rR kE 70 r7 (marksE 1 t.length), rR kE 70 r2 t, rR i64 e4 r4 (flD t n), rR kE 70 r16 t] := Hold.t H13 ch30
    clear H13
    clear ch30
    refine r (sa rfl) (re (sq (sq (rg (r (mv rfl) (r (bi rfl rfl rfl) (re ?_)))))))
    refine cf ((rfl : _ = Value.bool (decide ((1 + ((((flD t n).length) : Nat) : Int)) < 0))).trans (congrArg Value.bool (show (decide ((1 + ((((flD t n).length) : Nat) : Int)) < 0)) = false from (decide_eq_false (by omega))))) ?_
    refine sk (sq (sq (rg (r (mv rfl) (r (mv z10) (r (bi rfl rfl rfl) (re ?_)))))))
    refine cf ((rfl : _ = Value.bool (!decide ((1 + ((((flD t n).length) : Nat) : Int)) = (1 + ((flD t n).length : Int))))).trans (congrArg Value.bool (show (!decide ((1 + ((((flD t n).length) : Nat) : Int)) = (1 + ((flD t n).length : Int)))) = false from (by rw [decide_eq_true (by omega)]; rfl)))) ?_
    refine sk (sq ?_)
    refine gen (fun ρ => ρ 0 = v ∧ ρ 1 = .int .i64 n ∧ ρ 4 = .bool false ∧ ρ 6 = r4 ∧ True) ⟨z0, z1, z4, z6, trivial⟩ ?_
    rintro ρ ⟨z0, z1, z4, z6, -⟩
    refine rg (r (mv z0) (cl go46 (toEntryS_H (hx.t (Hold.ch H14)) (by first | assumption | omega | (simp; omega))) (ac rfl an) ?_))
    rintro r33 wt33 Ht33
    have H15 : Hold w [] wt33 [rR i64 e9 r9 (marks8 1 (flD t n).length), rR kE 70 r7 (marksE 1 t.length), rR kE 70 r2 t, rR i64 e4 r4 (flD t n), rR kE 70 r16 t, rR kE 70 r33 t] := Hold.news H14 Ht33
    clear H14
    clear Ht33
    obtain ⟨_, R37⟩ : ∃ F, Kd.R kE wt33 F r33 t := Hold.row H15 5 rfl
    refine r (mv z1) (cl go47 (impl_FreeLids R37 (by first | assumption | omega | (simp; omega))) (ac rfl (ac rfl an)) ?_)
    rintro r35 wd35 ⟨e35, Hd35⟩
    have H16 : Hold w [] wd35 [rR i64 e9 r9 (marks8 1 (flD t n).length), rR kE 70 r7 (marksE 1 t.length), rR kE 70 r2 t, rR i64 e4 r4 (flD t n), rR kE 70 r16 t, rR kE 70 r33 t, rR i64 e35 r35 (flD t n)] := Hold.news H15 Hd35
    clear H15
    clear Hd35
    obtain ⟨_, R40⟩ : ∃ F, Kd.R i64 wd35 F r35 (flD t n) := Hold.row H16 6 rfl
    obtain ⟨_, R41⟩ : ∃ F, Kd.R i64 wd35 F r4 (flD t n) := Hold.row H16 3 rfl
    refine r (sa rfl) (re (sq (sq (rg (r (mv rfl) (r (mv z6) (cl go26 (eqInt64S R40 R41 (by first | assumption | omega | (simp; omega))) (ac rfl (ac rfl an)) ?_)))))))
    rintro r wq38 ⟨rfl, cq38⟩
    have H17 : Hold w [] wq38 [rR i64 e9 r9 (marks8 1 (flD t n).length), rR kE 70 r7 (marksE 1 t.length), rR kE 70 r2 t, rR i64 e4 r4 (flD t n), rR kE 70 r16 t, rR kE 70 r33 t, rR i64 e35 r35 (flD t n)] := Hold.t H16 cq38
    clear H16
    clear cq38
    refine r (nt rfl) (re ?_)
    refine cf ((rfl : _ = Value.bool (!(decide (flD t n = flD t n)))).trans (congrArg Value.bool (show (!(decide (flD t n = flD t n))) = false from (by rw [decide_eq_true rfl]; rfl)))) ?_
    refine sk (sq (rg (r (sa rfl) (re (rt ?_)))))
    exact fin1 (v := .bool true) Try.results8 rfl ⟨rfl, Hold.ch H17⟩
end Go.Proofs.Ytgpcanjmgdmdhaa
