/-
  CONTRACTS 22: the laws' helpers over tables, by what is owned. No condition.
-/
import Derived.Test.Ytgpcanjmgdmdhaa21
namespace Go.Proofs.Ytgpcanjmgdmdhaa
open Go Go.Eng
set_option maxRecDepth 100000
set_option maxHeartbeats 4000000
set_option linter.unusedVariables false
set_option linter.unusedSimpArgs false
section
variable {w : World} {F : List Nat} {v : Value} {k : Int} {e : TypeId}
theorem toByteS_H {xs : List Int} (hx : u8.R w F v xs) (lx : xs.length ≤ 1000000000) : Ret Try.prog 61 #[v] w (fun r w' => Hold w [] w' [rR u8 5 r xs]) := Ret.hold (d := u8) (toByteS hx lx)
theorem toInt64S_H {xs : List Int} (hx : i64.R w F v xs) (lx : xs.length ≤ 1000000000) : Ret Try.prog 24 #[v] w (fun r w' => Hold w [] w' [rR i64 2 r xs]) := Ret.hold (d := i64) (toInt64S hx lx)
theorem toEntryS_H {xs : List (Int × Bool)} (hx : kE.R w F v xs) (lx : xs.length ≤ 1000000000) : Ret Try.prog 46 #[v] w (fun r w' => Hold w [] w' [rR kE 70 r xs]) := Ret.hold (d := kE) (toEntryS hx lx)
theorem markByteS_H {xs : List Int} (h : Hs w [rR u8 e v xs] F) (n : F.Nodup) (hk : 0 ≤ k ∧ k ≤ 1000000000000) (lx : xs.length ≤ 1000000000) : Ret Try.prog 37 #[v, .int .i64 k] w (fun r w' => r = .int .i64 (k + xs.length) ∧ Hold w F w' [rR u8 e v (marks k xs.length)]) :=
  (markByteS (e := e) h.one' n hk lx).mono fun r w' ⟨e1, F', A⟩ => ⟨e1, hold_apd h.one' A⟩
theorem markInt64S_H {xs : List Int} (h : Hs w [rR i64 e v xs] F) (n : F.Nodup) (hk : 0 ≤ k ∧ k ≤ 1000000000000) (lx : xs.length ≤ 1000000000) : Ret Try.prog 50 #[v, .int .i64 k] w (fun r w' => r = .int .i64 (k + xs.length) ∧ Hold w F w' [rR i64 e v (marks8 k xs.length)]) :=
  (markInt64S (e := e) h.one' n hk lx).mono fun r w' ⟨e1, F', A⟩ => ⟨e1, hold_apd h.one' A⟩
end
/-- A table that is marked. -/
def mkE (k : Int) (i : Nat) : Int × Bool := (k + 2 * (i : Int), decide ((k + 2 * (i : Int) + 1).tmod 3 = 0))
def marksE (k : Int) (n : Nat) : List (Int × Bool) := (List.range n).map (mkE k)
theorem marksE_len (k : Int) (n : Nat) : (marksE k n).length = n := by simp [marksE]
theorem marksE_get (k : Int) (n i : Nat) (h : i < (marksE k n).length) : (marksE k n)[i] = mkE k i := by simp [marksE]
theorem marksE_set {xs : List (Int × Bool)} {k : Int} {i : Nat} (hi : i < xs.length) : (marksE k i ++ xs.drop i).set i (mkE k i) = marksE k (i + 1) ++ xs.drop (i + 1) := by
  rw [List.set_append_right _ _ (by rw [marksE_len]; exact Nat.le_refl _), marksE_len, Nat.sub_self, List.drop_eq_getElem_cons hi, List.set_cons_zero]
  simp [marksE, List.range_succ]
theorem markEntryS2 {w : World} {F : List Nat} {v : Value} {xs : List (Int × Bool)} {k : Int} {e : TypeId} (hW : kE.W e w F v xs) (hn : F.Nodup) (hk : 0 ≤ k ∧ k ≤ 1000000000000) (lx : xs.length ≤ 1000000000) :
    Ret Try.prog 49 #[v, .int .i64 k] w (fun r w' => r = .int .i64 (k + 2 * xs.length) ∧ ∃ F', Mut kE e w w' F F' v (marksE k xs.length)) := by
  refine enter Try.func49 rfl Try.ntmps49 (by rfl) (by rfl) ?_
  refine sq (rg (r (sa rfl) (re (sq (sq (rg (r (sa rfl) (re (bl ?_)))))))))
  refine lp (α := Nat × List Nat) (fun (i, G) ρ w' => ρ 0 = v ∧ ρ 1 = .int .i64 (k + 2 * (i : Int)) ∧ ρ 5 = .int .i64 (i : Int) ∧ i ≤ xs.length ∧ Mut kE e w w' F G v (marksE k i ++ xs.drop i)) (fun (i, G) => xs.length - i) (0, F) ?_ ?_
  · exact ⟨rfl, (show _ = Value.int .i64 k from rfl).trans (by simp), rfl, ⟨by omega, Mut.refl hW hn⟩⟩
  rintro ⟨i, G⟩ ρ w' ⟨y0, y1, y5, hi, A⟩
  obtain ⟨ys, hys⟩ : ∃ ys, ys = marksE k i ++ xs.drop i := ⟨_, rfl⟩
  rw [← hys] at A
  have hl : ys.length = xs.length := by rw [hys]; simp [marksE_len]; omega
  refine sq (sq (rg (r (mv y5) (r (mv y0) (r (ln Try.underlying57 rfl (A.W.R)) (r (bi rfl rfl rfl) (re ?_)))))))
  refine cp rfl (fun h => ?_) (fun h => ?_)
  · rw [hl] at h
    have hi' : i < ys.length := by omega
    refine sk (sq (bl (sq (rg (r (mv y0) (r (mv y5) (r (mv y1) ?_)))))))
    refine ixf (dk := kE) (a := (k + 2 * (i : Int), ys[i].2)) Try.underlying57 ti70 Try.underlying70 rfl rfl rfl ti2 rfl rfl A.W A.nd rfl hi' (fun _ _ => rfl) rfl rfl (one_all rfl) (by decide) (fun _ _ _ h => entry_set0 h) ?_
    intro _ _ w1 s1 W1 c1
    have M1 := A.tr ⟨W1, A.nd, fun j hj => .inl hj, c1.mono (fun j hj _ => W_own A.W j hj)⟩
    have hi2 : i < (ys.set i (k + 2 * (i : Int), ys[i].2)).length := by simpa using hi'
    refine re (sq (rg (r (mv y1) (r (ad (k + 2 * (i : Int) + 1) rfl rfl (by omega)) (r (sa rfl) (re (sq (rg (r (mv y0) (r (mv y5) (r (mv rfl) (r (rm ((k + 2 * (i : Int) + 1).tmod 3) rfl rfl ⟨by omega, rfl⟩) (r (bi rfl rfl rfl) ?_)))))))))))))
    refine ixf (dk := kE) (a := ((ys.set i (k + 2 * (i : Int), ys[i].2))[i].1, decide ((k + 2 * (i : Int) + 1).tmod 3 = 0))) Try.underlying57 ti70 Try.underlying70 rfl rfl rfl ti4 rfl rfl M1.W M1.nd rfl hi2 (fun _ _ => rfl) rfl rfl (one_all rfl) (by decide) (fun _ _ _ h => entry_set1 h) ?_
    intro _ _ w2 s2 W2 c2
    have M2 := M1.tr ⟨W2, M1.nd, fun j hj => .inl hj, c2.mono (fun j hj _ => W_own M1.W j hj)⟩
    have eys : (ys.set i (k + 2 * (i : Int), ys[i].2)).set i ((ys.set i (k + 2 * (i : Int), ys[i].2))[i].1, decide ((k + 2 * (i : Int) + 1).tmod 3 = 0)) = marksE k (i + 1) ++ xs.drop (i + 1) := by
      rw [List.set_set, List.getElem_set_self, ← marksE_set (by omega), ← hys]; rfl
    rw [eys] at M2
    refine re (rg (r (mv rfl) (r (ad (k + 2 * ((i + 1 : Nat) : Int)) rfl rfl (by omega)) (r (sa rfl) (re (be (rg (r (mv y5) (r (ad (((i + 1 : Nat) : Int)) rfl rfl (by omega)) (r (sa rfl) (re ?_)))))))))))
    refine ag (i + 1, G) ⟨y0, rfl, rfl, by omega, M2⟩ (by dsimp only; omega)
  · rw [hl] at h
    obtain rfl : i = xs.length := by omega
    refine ex rfl (sq (rg (r (mv y1) (r (sa rfl) (re (rt ?_))))))
    exact fin1 (v := .int .i64 (k + 2 * xs.length)) Try.results49 rfl ⟨rfl, G, by rw [hys] at A; simpa using A⟩
theorem markEntryS_H {w : World} {F : List Nat} {v : Value} {k : Int} {e : TypeId} {xs : List (Int × Bool)} (h : Hs w [rR kE e v xs] F) (n : F.Nodup) (hk : 0 ≤ k ∧ k ≤ 1000000000000) (lx : xs.length ≤ 1000000000) : Ret Try.prog 49 #[v, .int .i64 k] w (fun r w' => r = .int .i64 (k + 2 * xs.length) ∧ Hold w F w' [rR kE e v (marksE k xs.length)]) :=
  (markEntryS2 (e := e) h.one' n hk lx).mono fun r w' ⟨e1, F', A⟩ => ⟨e1, hold_mut A⟩
theorem heldEntryS {w : World} {F : List Nat} {v : Value} {n : Nat} {k : Int} (hx : kE.R w F v (marksE k n)) (hk : 0 ≤ k ∧ k ≤ 1000000000000) (hln : n ≤ 1000000000) :
    Ret Try.prog 124 #[v, .int .i64 k] w (fun r w' => r = .int .i64 (k + 2 * n) ∧ Ch [] w w') := by
  refine enter Try.func124 rfl Try.ntmps124 (by rfl) (by rfl) ?_
  have H0 : Hold w [] w [] := Hold.start w
  have hl := marksE_len k n
  refine sq (rg (r (sa rfl) (re (sq (sq (rg (r (sa rfl) (re (bl ?_)))))))))
  refine lp (α := Nat) (fun i ρ w' => ρ 0 = v ∧ ρ 1 = .int .i64 (k + 2 * (i : Int)) ∧ ρ 5 = .int .i64 (i : Int) ∧ Hold w [] w' [] ∧ i ≤ n) (fun i => n - i) 0 ?_ ?_
  · exact ⟨rfl, (show _ = Value.int .i64 k from rfl).trans (by simp), rfl, H0, by omega⟩
  clear H0
  rintro i ρ w501 ⟨y0, y1, y5, H1, hi⟩
  refine sq (sq (rg (r (mv y5) (r (mv y0) (r (ln Try.underlying57 rfl ((hx.t (Hold.ch H1)))) (r (bi rfl rfl rfl) (re ?_)))))))
  refine cp rfl (fun h => ?_) (fun h => ?_)
  · have hi' : i < (marksE k n).length := by omega
    have hg := marksE_get k n i hi'
    refine sk (sq (bl (sq (sq (rg (r (mv y0) (r (mv y5) ?_)))))))
    obtain ⟨c14_1, ad14_1, k14_1, e14_1, p14_1⟩ := Kd.R.place hx i (by omega)
    have q14_1 := en_at p14_1
    refine r (ix (j := i) Try.underlying57 ti70 e14_1 rfl (by omega)) (r (fa' Try.underlying70 rfl ti2 rfl rfl) (r (ld Try.underlying2 rfl rfl (Ch.cell (Hold.ch H1) (q14_1 0 _ rfl))) (r (mv y1) (r (bi rfl rfl rfl) (re ?_)))))
    refine cpn rfl (fun hne => ?_) (fun hne => ?_)
    · exact absurd (by rw [hg]; rfl) hne
    · refine sk (sq ?_)
      refine gen (fun ρ => ρ 0 = v ∧ ρ 1 = .int .i64 (k + 2 * (i : Int)) ∧ ρ 5 = .int .i64 (i : Int) ∧ True) ⟨y0, y1, y5, trivial⟩ ?_
      rintro ρ ⟨z0, z1, z5, -⟩
      refine rg (r (mv z1) (r (ad ((k + 2 * (i : Int)) + 1) rfl rfl (by omega)) (r (sa rfl) (re (sq (sq (rg (r (mv z0) (r (mv z5) ?_)))))))))
      obtain ⟨c23_2, ad23_2, k23_2, e23_2, p23_2⟩ := Kd.R.place hx i (by omega)
      have q23_2 := en_at p23_2
      refine r (ix (j := i) Try.underlying57 ti70 e23_2 rfl (by omega)) (r (fa' Try.underlying70 rfl ti4 rfl rfl) (r (ld Try.underlying4 rfl rfl (Ch.cell (Hold.ch H1) (q23_2 1 _ rfl))) (r (mv rfl) (r (rm ((k + 2 * (i : Int) + 1).tmod 3) rfl rfl ⟨by omega, rfl⟩) (r (bi rfl rfl rfl) (r (bne_ Try.underlying4 rfl rfl) (re ?_)))))))
      refine cd rfl (fun hne2 => ?_) (fun hne2 => ?_)
      · rw [hg] at hne2; simp [mkE] at hne2
      · refine sk ?_
        refine gen (fun ρ => ρ 0 = v ∧ ρ 1 = .int .i64 ((k + 2 * (i : Int)) + 1) ∧ ρ 5 = .int .i64 (i : Int) ∧ True) ⟨z0, rfl, z5, trivial⟩ ?_
        rintro ρ ⟨z0, z1, z5, -⟩
        refine rg (r (mv z1) (r (ad (k + 2 * ((i + 1 : Nat) : Int)) rfl rfl (by omega)) (r (sa rfl) (re (be (rg (r (mv z5) (r (ad (((i + 1 : Nat) : Int)) rfl rfl (by omega)) (r (sa rfl) (re ?_))))))))))
        exact ag (i + 1) ⟨z0, rfl, rfl, H1, by omega⟩ (by first | omega | (dsimp only; omega))
  · obtain rfl : i = n := by omega
    refine ex rfl (sq (rg (r (mv y1) (r (sa rfl) (re (rt ?_))))))
    exact fin1 (v := .int .i64 (k + 2 * (i : Int))) Try.results124 rfl ⟨rfl, Hold.ch H1⟩
theorem eqTableResult {w : World} {F G : List Nat} {v u : Value} {a b : Bool} {xs ys : List (Int × Bool)} (hx : kE.R w F v xs) (hy : kE.R w G u ys) (lx : xs.length ≤ 1000000000) :
    Ret Try.prog 67 #[.agg #[.bool a, v], .agg #[.bool b, u]] w (fun r w' => r = .bool (decide ((a, xs) = (b, ys))) ∧ Ch [] w w') := by
  refine enter Try.func67 rfl Try.ntmps67 (by rfl) (by rfl) ?_
  have H0 : Hold w [] w [] := Hold.start w
  refine sq (rg (ef (xbx (t := 86) rfl rfl) ?_))
  rintro _ w1 ⟨g2, e1, rfl, -, b1, c1⟩
  have H1 : Hold w [] w1 [rB g2 86 ([.bool a, v])] := Hold.newB H0 e1 b1 c1
  clear H0
  clear e1 b1 c1
  refine ef (xbx (t := 86) rfl rfl) ?_
  rintro _ w2 ⟨g3, e2, rfl, -, b2, c2⟩
  have H2 : Hold w [] w2 [rB g2 86 ([.bool a, v]), rB g3 86 ([.bool b, u])] := Hold.newB H1 e2 b2 c2
  clear H1
  clear e2 b2 c2
  have b3 : B w2 g2 86 ([.bool a, v]) := Hold.blk H2 0 rfl
  have b4 : B w2 g3 86 ([.bool b, u]) := Hold.blk H2 1 rfl
  refine r (sa rfl) (re (sq (sq (rg (r (fa Try.underlying86 rfl ti4 rfl rfl) (r (ldb Try.underlying4 rfl rfl b3 rfl) (r (fa Try.underlying86 rfl ti4 rfl rfl) (r (ldb Try.underlying4 rfl rfl b4 rfl) (r (bne_ Try.underlying4 rfl rfl) (re ?_))))))))))
  refine cd rfl (fun h => ?_) (fun h => ?_)
  · refine sq (rg (r (sa rfl) (re (rt ?_))))
    exact fin1 (v := .bool false) Try.results67 rfl ⟨congrArg Value.bool (decide_eq_false (fun e => by injection e with e1 e2; simp [e1] at h)).symm, Hold.ch H2⟩
  · have hab : a = b := by simpa using h
    refine sk (sq (sq (rg (r (fa Try.underlying86 rfl ti57 rfl rfl) (r (ldb Try.underlying57 rfl rfl b3 rfl) (r (fa Try.underlying86 rfl ti57 rfl rfl) (r (ldb Try.underlying57 rfl rfl b4 rfl) (cl go48 (eqEntryS (hx.t (Hold.ch H2)) (hy.t (Hold.ch H2)) lx) (ac rfl (ac rfl an)) ?_))))))))
    rintro r wq ⟨rfl, cq⟩
    have H3 : Hold w [] wq [rB g2 86 ([.bool a, v]), rB g3 86 ([.bool b, u])] := Hold.t H2 cq
    clear H2
    clear cq
    refine r (nt rfl) (re ?_)
    refine cpn rfl (fun h2 => ?_) (fun h2 => ?_)
    · refine sq ?_
      refine gen (fun ρ => ρ 4 = .bool false ∧ True) ⟨rfl, trivial⟩ ?_
      rintro ρ ⟨z4, -⟩
      refine rg (r (sa rfl) (re (rt ?_)))
      exact fin1 (v := .bool false) Try.results67 rfl ⟨congrArg Value.bool (decide_eq_false (fun e => h2 (by injection e))).symm, Hold.ch H3⟩
    · refine sk (sq ?_)
      refine gen (fun ρ => ρ 4 = .bool false ∧ True) ⟨rfl, trivial⟩ ?_
      rintro ρ ⟨z4, -⟩
      refine rg (r (sa rfl) (re (rt ?_)))
      exact fin1 (v := .bool true) Try.results67 rfl ⟨congrArg Value.bool (decide_eq_true (by rw [hab, h2])).symm, Hold.ch H3⟩
theorem markTableResult_H {w : World} {F : List Nat} {v : Value} {b : Bool} {k : Int} {e : TypeId} {xs : List (Int × Bool)} (h : Hs w [rR kE e v xs] F) (n : F.Nodup) (hk : 0 ≤ k ∧ k ≤ 1000000000) (lx : xs.length ≤ 1000000000) :
    Ret Try.prog 68 #[.agg #[.bool b, v], .int .i64 k] w (fun r w' => r = .int .i64 (k + 2 * xs.length) ∧ Hold w F w' [rR kE e v (marksE k xs.length)]) := by
  refine enter Try.func68 rfl Try.ntmps68 (by rfl) (by rfl) ?_
  have H0 : Hold w F w [rR kE e v xs] := Hold.begin h n
  refine sq (rg (ef (xbx (t := 86) rfl rfl) ?_))
  rintro _ w1 ⟨g2, e1, rfl, -, b1, c1⟩
  have H1 : Hold w F w1 [rR kE e v xs, rB g2 86 ([.bool b, v])] := Hold.newB H0 e1 b1 c1
  clear H0
  clear e1 b1 c1
  have b2 : B w1 g2 86 ([.bool b, v]) := Hold.blk H1 1 rfl
  obtain ⟨F3, hF3, n3, s3, K3⟩ := Hold.front (Γ := [rR kE e v xs]) (Δ := [rB g2 86 ([.bool b, v])]) H1
  refine r (sa rfl) (re (sq (rg (r (fa Try.underlying86 rfl ti57 rfl rfl) (r (ldb Try.underlying57 rfl rfl b2 rfl) (r (mv rfl) (cl go49 (markEntryS_H hF3 n3 (by omega) lx) (ac rfl (ac rfl an)) ?_)))))))
  rintro r wq ⟨rfl, Hq⟩
  have H2 : Hold w F wq [rR kE e v (marksE k xs.length), rB g2 86 ([.bool b, v])] := Hold.call K3 Hq
  clear H1
  clear K3 hF3 n3 s3
  clear Hq
  refine r (sa rfl) (re (sq (rg (r (mv rfl) (r (sa rfl) (re (rt ?_)))))))
  have H3 : Hold w F wq [rR kE e v (marksE k xs.length)] := (show Hold w F wq ([rR kE e v (marksE k xs.length)] ++ [rB g2 86 ([.bool b, v])]) from Hold.re H2 [0, 1] (by rfl) (by rfl)).drop
  clear H2
  exact fin1 (v := .int .i64 (k + 2 * (xs.length : Int))) Try.results68 rfl ⟨rfl, H3⟩
theorem heldTableResult {w : World} {F : List Nat} {v : Value} {b : Bool} {n : Nat} {k : Int} (hx : kE.R w F v (marksE k n)) (hk : 0 ≤ k ∧ k ≤ 1000000000) (hln : n ≤ 1000000000) :
    Ret Try.prog 69 #[.agg #[.bool b, v], .int .i64 k] w (fun r w' => r = .int .i64 (k + 2 * n) ∧ Ch [] w w') := by
  refine enter Try.func69 rfl Try.ntmps69 (by rfl) (by rfl) ?_
  have H0 : Hold w [] w [] := Hold.start w
  refine sq (rg (ef (xbx (t := 86) rfl rfl) ?_))
  rintro _ w1 ⟨g2, e1, rfl, -, b1, c1⟩
  have H1 : Hold w [] w1 [rB g2 86 ([.bool b, v])] := Hold.newB H0 e1 b1 c1
  clear H0
  clear e1 b1 c1
  have b2 : B w1 g2 86 ([.bool b, v]) := Hold.blk H1 0 rfl
  refine r (sa rfl) (re (sq (rg (r (fa Try.underlying86 rfl ti57 rfl rfl) (r (ldb Try.underlying57 rfl rfl b2 rfl) (r (mv rfl) (cl go124 (heldEntryS (hx.t (Hold.ch H1)) (by omega) hln) (ac rfl (ac rfl an)) ?_)))))))
  rintro r wq ⟨rfl, cq⟩
  have H2 : Hold w [] wq [rB g2 86 ([.bool b, v])] := Hold.t H1 cq
  clear H1
  clear cq
  refine r (sa rfl) (re (sq (sq (rg (r (mv rfl) (r (bi rfl rfl rfl) (re ?_)))))))
  refine cf ((rfl : _ = Value.bool (decide ((k + 2 * (n : Int)) < 0))).trans (congrArg Value.bool (show (decide ((k + 2 * (n : Int)) < 0)) = false from decide_eq_false (by omega)))) ?_
  refine sk (sq (rg (r (mv rfl) (r (sa rfl) (re (rt ?_))))))
  exact fin1 (v := .int .i64 (k + 2 * (n : Int))) Try.results69 rfl ⟨rfl, Hold.ch H2⟩
end Go.Proofs.Ytgpcanjmgdmdhaa
