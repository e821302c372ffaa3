/-
  CONTRACTS 8: disks as data: equal, marked, held; the law on NewDisk. No condition.
-/
import Derived.Test.Ytgpcanjmgdmdhaa7
import Derived.Test.YtgpcanjmgdmdhaaNest
namespace Go.Proofs.Ytgpcanjmgdmdhaa
open Go Go.Eng
set_option maxRecDepth 100000
set_option maxHeartbeats 4000000
set_option linter.unusedVariables false
/-- A pending write: the block, the data. -/
abbrev kW : Kd (Int × List Int) := i64.prod (Kd.sl 5 u8)
theorem wr_at {w : World} {F : List Nat} {x : Int × List Int} {ad : Addr} {cs : List Value} (h : Plc kW w F x ad cs) : ∃ vd Fd, u8.R w Fd vd x.2 ∧ (∀ k, k ∈ Fd → k ∈ F) ∧ ∀ m u, [Value.int .i64 x.1, vd][m]? = some u → w.cell? (ad.add m) = some u := by
  obtain ⟨Fi, hF, ⟨F1, F2, c1, c2, rfl, rfl, ⟨rfl, rfl⟩, vd, rfl, hR⟩, hc⟩ := h
  exact ⟨vd, F2, hR, fun k hk => hF k (by simp [hk]), hc⟩
theorem eqWrite {w : World} {a b : Int} {F G : List Nat} {v u : Value} {xs ys : List Int} (hx : u8.R w F v xs) (hy : u8.R w G u ys) (lx : xs.length ≤ 1000000000) :
    Ret Try.prog 145 #[.agg #[.int .i64 a, v], .agg #[.int .i64 b, u]] w (fun r w' => r = .bool (decide ((a, xs) = (b, ys))) ∧ Ch [] w w') := by
  refine enter Try.func145 rfl Try.ntmps145 (by rfl) (by rfl) ?_
  obtain ⟨A1, k1, rfl, hk1⟩ := hx.shape
  obtain ⟨A2, k2, rfl, hk2⟩ := hy.shape
  refine sq (rg (bx rfl ?_))
  intro g2 wg2 eg2 sg2 bg2 cg2
  have qg2 := le_new (Ch.refl [] w).size eg2
  have hcg2 : Ch [] w wg2 := (Ch.refl [] w).t cg2
  replace bg2 : B wg2 g2 112 ([.int .i64 a, .slice A1 xs.length k1]) := bg2
  refine bx rfl ?_
  intro g3 wg3 eg3 sg3 bg3 cg3
  have ng2_g3 := ne_new bg2.lt eg3
  have qg3 := le_new hcg2.size eg3
  replace bg2 := cg3.b0 bg2
  have hcg3 : Ch [] w wg3 := hcg2.t cg3
  replace bg3 : B wg3 g3 112 ([.int .i64 b, .slice A2 ys.length k2]) := bg3
  refine r (sa rfl) (re (sq (sq (rg (r (fa Try.underlying112 rfl ti2 rfl rfl) (r (ldb Try.underlying2 rfl rfl bg2 rfl) (r (fa Try.underlying112 rfl ti2 rfl rfl) (r (ldb Try.underlying2 rfl rfl bg3 rfl) (r (bi rfl rfl rfl) (re ?_))))))))))
  refine cpn rfl (fun h => ?_) (fun h => ?_)
  · refine sq (rg (r (sa rfl) (re (rt ?_))))
    exact fin1 (v := .bool false) Try.results145 rfl ⟨congrArg Value.bool (decide_eq_false (fun e => h (by injection e))).symm, hcg3⟩
  · refine sk (sq (sq (rg (r (fa Try.underlying112 rfl ti40 rfl rfl) (r (ldb Try.underlying40 rfl rfl bg2 rfl) (r (fa Try.underlying112 rfl ti40 rfl rfl) (r (ldb Try.underlying40 rfl rfl bg3 rfl) (cl go36 (eqByteS (hx.t hcg3) (hy.t hcg3) lx) (ac rfl (ac rfl an)) ?_))))))))
    rintro r wq ⟨rfl, cq⟩
    replace bg2 := cq.b0 bg2
    replace bg3 := cq.b0 bg3
    have hcq : Ch [] w wq := hcg3.t cq
    refine r (nt rfl) (re ?_)
    refine cpn rfl (fun h2 => ?_) (fun h2 => ?_)
    · refine sq ?_
      refine gen (fun ρ => ρ 4 = .bool false ∧ True) ⟨rfl, trivial⟩ ?_
      rintro ρ ⟨z4, -⟩
      refine rg (r (sa rfl) (re (rt ?_)))
      exact fin1 (v := .bool false) Try.results145 rfl ⟨congrArg Value.bool (decide_eq_false (fun e => h2 (by injection e))).symm, hcq⟩
    · refine sk (sq ?_)
      refine gen (fun ρ => ρ 4 = .bool false ∧ True) ⟨rfl, trivial⟩ ?_
      rintro ρ ⟨z4, -⟩
      refine rg (r (sa rfl) (re (rt ?_)))
      exact fin1 (v := .bool true) Try.results145 rfl ⟨congrArg Value.bool (decide_eq_true (by rw [h, h2])).symm, hcq⟩
theorem eqWriteS {w : World} {F G : List Nat} {v u : Value} {xs ys : List (Int × List Int)} (hx : kW.R w F v xs) (hy : kW.R w G u ys) (lx : xs.length ≤ 1000000000) (lxx : ∀ x, x ∈ xs → x.2.length ≤ 1000000000) :
    Ret Try.prog 100 #[v, u] w (fun r w' => r = .bool (decide (xs = ys)) ∧ Ch [] w w') := by
  refine enter Try.func100 rfl Try.ntmps100 (by rfl) (by rfl) ?_
  refine sq (rg (r (sa rfl) (re (sq (sq (rg (r (mv rfl) (r (ln Try.underlying47 rfl ((hx.t (Ch.refl [] w)))) (r (mv rfl) (r (ln Try.underlying47 rfl ((hy.t (Ch.refl [] w)))) (r (bi rfl rfl rfl) (re ?_))))))))))))
  refine cpn rfl (fun h => ?_) (fun h => ?_)
  · refine sq (rg (r (sa rfl) (re (rt ?_))))
    exact fin1 (v := .bool false) Try.results100 rfl ⟨congrArg Value.bool (decide_eq_false (fun e => h (by rw [e]))).symm, (Ch.refl [] w)⟩
  · have h' : xs.length = ys.length := by omega
    refine sk (sq (sq (rg (r (sa rfl) (re (bl ?_))))))
    refine lp (α := Nat) (fun k ρ w' => ρ 0 = v ∧ ρ 1 = u ∧ ρ 5 = .int .i64 (k : Int) ∧ Ch [] w w' ∧ k ≤ xs.length ∧ xs.take k = ys.take k) (fun k => xs.length - k) 0 ?_ ?_
    · exact ⟨rfl, rfl, rfl, (Ch.refl [] w), ⟨by omega, rfl⟩⟩
    rintro k ρ w' ⟨y0, y1, y5, hc, ⟨hk, ht⟩⟩
    refine sq (sq (rg (r (mv y5) (r (mv y0) (r (ln Try.underlying47 rfl ((hx.t hc))) (r (bi rfl rfl rfl) (re ?_)))))))
    refine cp rfl (fun hlt => ?_) (fun hlt => ?_)
    · have hlt' : k < xs.length := by omega
      have hlt2 : k < ys.length := by omega
      refine sk (sq (bl (sq ?_)))
      refine rdd mixed ?_
      intro wD cD
      have hcD : Ch [] w wD := hc.t cD
      refine dt 0 rfl (by kernel_rfl) (mv y0) (dt 1 rfl (by kernel_rfl) (mv y5) ?_)
      obtain ⟨c19, ad19, k19, e19, p19⟩ := (hx).place k (by omega)
      obtain ⟨vd19, Fd19, Rd19, sd19, q19⟩ := wr_at p19
      refine dt 2 rfl (by kernel_rfl) (ix Try.underlying47 ti112 e19 rfl (by omega)) (dt 3 rfl (by kernel_rfl) (la [.int .i64 ((xs[k]).1), vd19] Try.underlying112 rfl ti112 rfl rfl (fun m u h => Ch.cell hcD (q19 m u h))) (dt 4 rfl (by kernel_rfl) (mv y1) (dt 5 rfl (by kernel_rfl) (mv y5) ?_)))
      obtain ⟨c23, ad23, k23, e23, p23⟩ := (hy).place k (by omega)
      obtain ⟨vd23, Fd23, Rd23, sd23, q23⟩ := wr_at p23
      refine dt 6 rfl (by kernel_rfl) (ix Try.underlying47 ti112 e23 rfl (by omega)) (dt 7 rfl (by kernel_rfl) (la [.int .i64 ((ys[k]).1), vd23] Try.underlying112 rfl ti112 rfl rfl (fun m u h => Ch.cell hcD (q23 m u h))) (d1 8 (by kernel_rfl) <| uc rfl go145 (ac rfl (ac rfl an)) (eqWrite (Rd19.t hcD) (Rd23.t hcD) (lxx _ (List.getElem_mem hlt'))) ?_))
      rintro r wq ⟨rfl, cq⟩
      have hcqD := (Ch.refl [] wD).t cq
      have hcq : Ch [] w wq := hcD.t cq
      refine ⟨hcqD, ?_⟩
      refine dt 9 rfl (by kernel_rfl) (nt rfl) ?_
      refine dd (by kernel_rfl) (fun _ => ?_)
      refine cpn rfl (fun hne => ?_) (fun hne => ?_)
      · refine sq ?_
        refine gen (fun ρ => ρ 0 = v ∧ ρ 1 = u ∧ ρ 5 = .int .i64 (k : Int) ∧ True) ⟨y0, y1, y5, trivial⟩ ?_
        rintro ρ ⟨z0, z1, z5, -⟩
        refine rg (r (sa rfl) (re (rt ?_)))
        exact fin1 (v := .bool false) Try.results100 rfl ⟨congrArg Value.bool (decide_eq_false (fun e => hne (by subst e; rfl))).symm, hcq⟩
      · refine sk (be ?_)
        refine gen (fun ρ => ρ 0 = v ∧ ρ 1 = u ∧ ρ 5 = .int .i64 (k : Int) ∧ True) ⟨y0, y1, y5, trivial⟩ ?_
        rintro ρ ⟨z0, z1, z5, -⟩
        refine rg (r (mv z5) (r (ad ((k : Int) + 1) rfl rfl (by omega)) (r (sa rfl) (re ?_))))
        exact ag (k + 1) ⟨z0, z1, rfl, hcq, ⟨by omega, take_succ' hlt' (by omega) ht hne⟩⟩ (by first | omega | (dsimp only; omega))
    · refine ex rfl (sq (rg (r (sa rfl) (re (rt ?_)))))
      exact fin1 (v := .bool true) Try.results100 rfl ⟨congrArg Value.bool (decide_eq_true (by rw [List.take_of_length_le (by omega), List.take_of_length_le (by omega)] at ht; exact ht)).symm, hc⟩
theorem eqDisk {w : World} {F G F2 G2 : List Nat} {v u v2 u2 : Value} {xs ys : List Int} {ps qs : List (Int × List Int)} (hx : u8.R w F v xs) (hp : kW.R w G u ps) (hy : u8.R w F2 v2 ys) (hq : kW.R w G2 u2 qs)
    (lx : xs.length ≤ 1000000000) (lp : ps.length ≤ 1000000000) (lxx : ∀ x, x ∈ ps → x.2.length ≤ 1000000000) :
    Ret Try.prog 41 #[.agg #[v, u], .agg #[v2, u2]] w (fun r w' => r = .bool (decide ((xs, ps) = (ys, qs))) ∧ Ch [] w w') := by
  refine enter Try.func41 rfl Try.ntmps41 (by rfl) (by rfl) ?_
  obtain ⟨A1, k1, rfl, hk1⟩ := hx.shape
  obtain ⟨A2, k2, rfl, hk2⟩ := hp.shape
  obtain ⟨A3, k3, rfl, hk3⟩ := hy.shape
  obtain ⟨A4, k4, rfl, hk4⟩ := hq.shape
  refine sq (rg (bx rfl ?_))
  intro g2 wg2 eg2 sg2 bg2 cg2
  have qg2 := le_new (Ch.refl [] w).size eg2
  have hcg2 : Ch [] w wg2 := (Ch.refl [] w).t cg2
  replace bg2 : B wg2 g2 49 ([.slice A1 xs.length k1, .slice A2 ps.length k2]) := bg2
  refine bx rfl ?_
  intro g3 wg3 eg3 sg3 bg3 cg3
  have ng2_g3 := ne_new bg2.lt eg3
  have qg3 := le_new hcg2.size eg3
  replace bg2 := cg3.b0 bg2
  have hcg3 : Ch [] w wg3 := hcg2.t cg3
  replace bg3 : B wg3 g3 49 ([.slice A3 ys.length k3, .slice A4 qs.length k4]) := bg3
  refine r (sa rfl) (re (sq (sq (rg (r (fa Try.underlying49 rfl ti40 rfl rfl) (r (ldb Try.underlying40 rfl rfl bg2 rfl) (r (fa Try.underlying49 rfl ti40 rfl rfl) (r (ldb Try.underlying40 rfl rfl bg3 rfl) (cl go36 (eqByteS (hx.t hcg3) (hy.t hcg3) lx) (ac rfl (ac rfl an)) ?_)))))))))
  rintro r wa ⟨rfl, ca⟩
  replace bg2 := ca.b0 bg2
  replace bg3 := ca.b0 bg3
  have hca : Ch [] w wa := hcg3.t ca
  refine r (nt rfl) (re ?_)
  refine cpn rfl (fun h => ?_) (fun h => ?_)
  · refine sq (rg (r (sa rfl) (re (rt ?_))))
    exact fin1 (v := .bool false) Try.results41 rfl ⟨congrArg Value.bool (decide_eq_false (fun e => h (by injection e))).symm, hca⟩
  · refine sk (sq (sq (rg (r (fa Try.underlying49 rfl ti47 rfl rfl) (r (ldb Try.underlying47 rfl rfl bg2 rfl) (r (fa Try.underlying49 rfl ti47 rfl rfl) (r (ldb Try.underlying47 rfl rfl bg3 rfl) (cl go100 (eqWriteS (hp.t hca) (hq.t hca) lp lxx) (ac rfl (ac rfl an)) ?_))))))))
    rintro r wb ⟨rfl, cb⟩
    replace bg2 := cb.b0 bg2
    replace bg3 := cb.b0 bg3
    have hcb : Ch [] w wb := hca.t cb
    refine r (nt rfl) (re ?_)
    refine cpn rfl (fun h2 => ?_) (fun h2 => ?_)
    · refine sq ?_
      refine gen (fun ρ => ρ 4 = .bool false ∧ True) ⟨rfl, trivial⟩ ?_
      rintro ρ ⟨z4, -⟩
      refine rg (r (sa rfl) (re (rt ?_)))
      exact fin1 (v := .bool false) Try.results41 rfl ⟨congrArg Value.bool (decide_eq_false (fun e => h2 (by injection e))).symm, hcb⟩
    · refine sk (sq ?_)
      refine gen (fun ρ => ρ 4 = .bool false ∧ True) ⟨rfl, trivial⟩ ?_
      rintro ρ ⟨z4, -⟩
      refine rg (r (sa rfl) (re (rt ?_)))
      exact fin1 (v := .bool true) Try.results41 rfl ⟨congrArg Value.bool (decide_eq_true (by rw [h, h2])).symm, hcb⟩
/-- The marks of writes; how many. -/
def mkW : Int → List (Int × List Int) → List (Int × List Int)
  | _, [] => []
  | k, x :: xs => (k, marks (k + 1) x.2.length) :: mkW (k + 1 + x.2.length) xs
def szW : List (Int × List Int) → Nat
  | [] => 0
  | x :: xs => 1 + x.2.length + szW xs
theorem szW_app (xs ys : List (Int × List Int)) : szW (xs ++ ys) = szW xs + szW ys := by
  induction xs with
  | nil => simp [szW]
  | cons x xs ih => simp only [List.cons_append, szW, ih]; omega
theorem szW_take {xs : List (Int × List Int)} {i : Nat} (hi : i < xs.length) : szW (xs.take (i + 1)) = szW (xs.take i) + 1 + xs[i].2.length := by
  rw [List.take_succ_eq_append_getElem hi, szW_app]
  simp [szW]; omega
theorem szW_le {xs : List (Int × List Int)} (i : Nat) : szW (xs.take i) ≤ szW xs := by
  have := szW_app (xs.take i) (xs.drop i)
  rw [List.take_append_drop] at this; omega
theorem szW_len {xs : List (Int × List Int)} : xs.length ≤ szW xs := by
  induction xs with
  | nil => simp [szW]
  | cons x xs ih => simp only [szW, List.length_cons]; omega
theorem szW_mem {xs : List (Int × List Int)} : ∀ x, x ∈ xs → x.2.length ≤ szW xs := by
  induction xs with
  | nil => simp
  | cons x xs ih =>
    intro y hy
    simp only [szW]
    rcases List.mem_cons.1 hy with rfl | hy
    · omega
    · have := ih y hy; omega
theorem mkW_app (k : Int) (xs ys : List (Int × List Int)) : mkW k (xs ++ ys) = mkW k xs ++ mkW (k + szW xs) ys := by
  induction xs generalizing k with
  | nil => simp [mkW, szW]
  | cons x xs ih =>
    simp only [List.cons_append, mkW, ih, szW]
    rw [show k + 1 + (x.2.length : Int) + (szW xs : Int) = k + ((1 + x.2.length + szW xs : Nat) : Int) by omega]
theorem mkW_len (k : Int) (xs : List (Int × List Int)) : (mkW k xs).length = xs.length := by
  induction xs generalizing k with
  | nil => rfl
  | cons x xs ih => simp [mkW, ih]
theorem szW_mkW (k : Int) (xs : List (Int × List Int)) : szW (mkW k xs) = szW xs := by
  induction xs generalizing k with
  | nil => rfl
  | cons x xs ih => simp [mkW, szW, ih, marks_len]
theorem markWriteS {w : World} {F : List Nat} {v : Value} {xs : List (Int × List Int)} {k : Int} {e : TypeId} (hW : kW.W e w F v xs) (hn : F.Nodup) (hk : 0 ≤ k ∧ k ≤ 100000000000) (lx : szW xs ≤ 1000000000) :
    Ret Try.prog 101 #[v, .int .i64 k] w (fun r w' => r = .int .i64 (k + szW xs) ∧ ∃ F', Mut kW e w w' F F' v (mkW k xs)) := by
  refine enter Try.func101 rfl Try.ntmps101 (by rfl) (by rfl) ?_
  refine sq (rg (r (sa rfl) (re (sq (sq (rg (r (sa rfl) (re (bl ?_)))))))))
  refine lp (α := Nat × List Nat) (fun (i, G) ρ w' => ρ 0 = v ∧ ρ 1 = .int .i64 (k + (szW (xs.take i) : Int)) ∧ ρ 5 = .int .i64 (i : Int) ∧ i ≤ xs.length ∧ Mut kW e w w' F G v (mkW k (xs.take i) ++ xs.drop i)) (fun (i, G) => xs.length - i) (0, F) ?_ ?_
  · exact ⟨rfl, (show _ = Value.int .i64 k from rfl).trans (by simp [szW]), rfl, ⟨by omega, Mut.refl hW hn⟩⟩
  rintro ⟨i, G⟩ ρ w' ⟨y0, y1, y5, hi, A⟩
  have hl : (mkW k (xs.take i) ++ xs.drop i).length = xs.length := by simp [mkW_len]; omega
  refine sq (sq (rg (r (mv y5) (r (mv y0) (r (ln Try.underlying47 rfl (A.W.R)) (r (bi rfl rfl rfl) (re ?_)))))))
  refine cp rfl (fun h => ?_) (fun h => ?_)
  · rw [hl] at h
    have hi' : i < xs.length := by omega
    have hS := szW_take hi'
    have hlen := szW_len (xs := xs)
    have hle := szW_le (xs := xs) (i + 1)
    have hm : (mkW k (xs.take i)).length = i := by rw [mkW_len, List.length_take]; omega
    have hd := List.drop_eq_getElem_cons hi'
    have hat : (mkW k (xs.take i) ++ xs.drop i)[i]'(by rw [hl]; exact hi') = xs[i] := by
      rw [List.getElem_append_right (by omega)]
      simp [hm]
    have hset : ∀ y, (mkW k (xs.take i) ++ xs.drop i).set i y = mkW k (xs.take i) ++ y :: xs.drop (i + 1) := fun y => by
      rw [List.set_append_right _ _ (by omega), hm, Nat.sub_self, hd, List.set_cons_zero]
    refine sk (sq (bl (sq (rg (r (mv y0) (r (mv y5) (r (mv y1) ?_)))))))
    refine ixf (dk := kW) (a := (k + (szW (xs.take i) : Int), xs[i].2)) Try.underlying47 ti112 Try.underlying112 rfl rfl rfl ti2 rfl rfl A.W A.nd rfl (by rw [hl]; exact hi') (fun _ _ => rfl) rfl rfl (one_all rfl) (by decide) ?_ ?_
    · rintro w2 Fi ci ⟨F1, F2, c1, c2, rfl, rfl, ⟨rfl, rfl⟩, vd, rfl, hO⟩
      rw [hat] at hO
      exact ⟨[], F2, [_], [vd], rfl, rfl, ⟨rfl, rfl⟩, vd, rfl, hO⟩
    intro _ _ w1 s1 W1 c1
    rw [hset] at W1
    have M1 := A.tr ⟨W1, A.nd, fun j hj => .inl hj, c1.mono (fun j hj _ => W_own A.W j hj)⟩
    obtain ⟨vd, Fd, cc, adr, hWd, hnd, hsd, hod, ev, hcell, hput⟩ := lens M1.W M1.nd i (by simp [hm])
    have hat2 : (mkW k (xs.take i) ++ (k + (szW (xs.take i) : Int), xs[i].2) :: xs.drop (i + 1))[i]'(by simp [hm]) = (k + (szW (xs.take i) : Int), xs[i].2) := by
      rw [List.getElem_append_right (by omega)]
      simp [hm]
    rw [hat2] at hWd hput
    have hmem := szW_mem xs[i] (List.getElem_mem hi')
    refine re (sq (rg (r (mv y1) (r (ad (k + (szW (xs.take i) : Int) + 1) rfl rfl (by omega)) (r (sa rfl) (re (rg (r (mv y0) (r (mv y5) ?_)))))))))
    refine r (ix Try.underlying47 ti112 (Eq.trans rfl ev) rfl (by simp [hm])) ?_
    refine r (fa' Try.underlying112 rfl ti40 rfl rfl) ?_
    refine r (ld Try.underlying40 rfl rfl hcell) ?_
    refine r (mv rfl) (cl go37 (markByteS hWd hnd (by omega) (by dsimp only; omega)) (ac rfl (ac rfl an)) ?_)
    rintro r w3 ⟨rfl, Fd2, B⟩
    refine r (sa rfl) (re (be (rg (r (mv y5) ?_))))
    obtain ⟨F3, hW3, hn3, hs3⟩ := hput w3 Fd2 _ B.W B.nd (fun j hj => (B.sub j hj).elim .inl (fun h => h.elim (fun h => by cases h) .inr)) (B.ch.mono (fun j hj _ => W_own hWd j hj))
    have M3 := M1.tr ⟨hW3, hn3, hs3, B.ch.mono (fun j hj _ => hsd j (W_own hWd j hj))⟩
    have e3 : (mkW k (xs.take i) ++ (k + (szW (xs.take i) : Int), xs[i].2) :: xs.drop (i + 1)).set i (k + (szW (xs.take i) : Int), marks (k + (szW (xs.take i) : Int) + 1) xs[i].2.length) = mkW k (xs.take (i + 1)) ++ xs.drop (i + 1) := by
      rw [List.set_append_right _ _ (by omega), hm, Nat.sub_self, List.set_cons_zero, List.take_succ_eq_append_getElem hi', mkW_app, List.append_assoc]
      rfl
    rw [e3] at M3
    refine r (ad (((i + 1 : Nat) : Int)) rfl rfl (by omega)) (r (sa rfl) (re ?_))
    refine ag (i + 1, F3) ⟨y0, (show _ = Value.int .i64 (k + (szW (xs.take i) : Int) + 1 + (xs[i].2.length : Int)) from rfl).trans (by rw [hS]; congr 1; omega), rfl, by omega, M3⟩ (by dsimp only; omega)
  · rw [hl] at h
    obtain rfl : i = xs.length := by omega
    rw [List.take_length, List.drop_length, List.append_nil] at A
    rw [List.take_length] at y1
    refine ex rfl (sq (rg (r (mv y1) (r (sa rfl) (re (rt ?_))))))
    exact fin1 (v := .int .i64 (k + szW xs)) Try.results101 rfl ⟨rfl, G, A⟩
theorem heldWriteS {w : World} {F : List Nat} {v : Value} {xs : List (Int × List Int)} {k : Int} (hx : kW.R w F v (mkW k xs)) (hk : 0 ≤ k ∧ k ≤ 100000000000) (lx : szW xs ≤ 1000000000) :
    Ret Try.prog 102 #[v, .int .i64 k] w (fun r w' => r = .int .i64 (k + szW xs) ∧ Ch [] w w') := by
  refine enter Try.func102 rfl Try.ntmps102 (by rfl) (by rfl) ?_
  have hl := mkW_len k xs
  refine sq (rg (r (sa rfl) (re (sq (sq (rg (r (sa rfl) (re (bl ?_)))))))))
  refine lp (α := Nat) (fun i ρ w' => ρ 0 = v ∧ ρ 1 = .int .i64 (k + (szW (xs.take i) : Int)) ∧ ρ 5 = .int .i64 (i : Int) ∧ Ch [] w w' ∧ i ≤ xs.length) (fun i => xs.length - i) 0 ?_ ?_
  · exact ⟨rfl, (show _ = Value.int .i64 k from rfl).trans (by simp [szW]), rfl, (Ch.refl [] w), by omega⟩
  rintro i ρ w' ⟨y0, y1, y5, hc, hi⟩
  refine sq (sq (rg (r (mv y5) (r (mv y0) (r (ln Try.underlying47 rfl ((hx.t hc))) (r (bi rfl rfl rfl) (re ?_)))))))
  refine cp rfl (fun h => ?_) (fun h => ?_)
  · have hi2 : i < xs.length := by omega
    have hi' : i < (mkW k xs).length := by omega
    have hS := szW_take hi2
    have hlen := szW_len (xs := xs)
    have hle := szW_le (xs := xs) (i + 1)
    have hmem := szW_mem xs[i] (List.getElem_mem hi2)
    have hat : (mkW k xs)[i] = (k + (szW (xs.take i) : Int), marks (k + (szW (xs.take i) : Int) + 1) xs[i].2.length) := by
      have h1 := mkW_app k (xs.take i) (xs.drop i)
      rw [List.take_append_drop] at h1
      have hm : (mkW k (xs.take i)).length = i := by rw [mkW_len, List.length_take]; omega
      simp only [h1]
      rw [List.getElem_append_right (by omega)]
      simp only [hm, Nat.sub_self, List.drop_eq_getElem_cons hi2, mkW, List.getElem_cons_zero]
    refine sk (sq (bl (sq (sq (rg (r (mv y0) (r (mv y5) ?_)))))))
    obtain ⟨c14, ad14, k14, e14, p14⟩ := (hx).place i (by omega)
    obtain ⟨vd14, Fd14, Rd14, sd14, q14⟩ := wr_at p14
    refine r (ix Try.underlying47 ti112 e14 rfl (by omega)) (r (fa' Try.underlying112 rfl ti2 rfl rfl) (r (ld Try.underlying2 rfl rfl (Ch.cell hc (q14 0 _ rfl))) (r (mv y1) (r (bi rfl rfl rfl) (re ?_)))))
    refine cpn rfl (fun hne => ?_) (fun hne => ?_)
    · exact absurd (by rw [hat]) hne
    · refine sk (sq ?_)
      refine gen (fun ρ => ρ 0 = v ∧ ρ 1 = .int .i64 (k + (szW (xs.take i) : Int)) ∧ ρ 5 = .int .i64 (i : Int) ∧ True) ⟨y0, y1, y5, trivial⟩ ?_
      rintro ρ ⟨z0, z1, z5, -⟩
      refine rg (r (mv z1) (r (ad ((k + (szW (xs.take i) : Int)) + 1) rfl rfl (by omega)) (r (sa rfl) (re (sq (rg (r (mv z0) (r (mv z5) ?_))))))))
      obtain ⟨c23, ad23, k23, e23, p23⟩ := (hx).place i (by omega)
      obtain ⟨vd23, Fd23, Rd23, sd23, q23⟩ := wr_at p23
      refine r (ix Try.underlying47 ti112 e23 rfl (by omega)) (r (fa' Try.underlying112 rfl ti40 rfl rfl) (r (ld Try.underlying40 rfl rfl (Ch.cell hc (q23 1 _ rfl))) (r (mv rfl) (cl go38 (heldByteS (n := xs[i].2.length) (k := k + (szW (xs.take i) : Int) + 1) (by have := (Rd23.t hc); rw [hat] at this; exact this) (by omega) (by omega)) (ac rfl (ac rfl an)) ?_))))
      rintro r wh ⟨rfl, ch⟩
      have hch : Ch [] w wh := hc.t ch
      refine r (sa rfl) (re (sq ?_))
      refine gen (fun ρ => ρ 0 = v ∧ ρ 1 = .int .i64 (k + (szW (xs.take i) : Int) + 1 + (xs[i].2.length : Int)) ∧ ρ 5 = .int .i64 (i : Int) ∧ True) ⟨z0, rfl, z5, trivial⟩ ?_
      rintro ρ ⟨z0, z1, z5, -⟩
      refine rg (r (mv z1) (r (bi rfl rfl rfl) (re ?_)))
      refine cp rfl (fun hneg => ?_) (fun hneg => ?_)
      · omega
      · refine sk (be (rg (r (mv z5) (r (ad ((i : Int) + 1) rfl rfl (by omega)) (r (sa rfl) (re ?_))))))
        refine ag (i + 1) ⟨z0, (z1).trans (by rw [hS]; congr 1; omega), rfl, hch, by omega⟩ (by omega)
  · obtain rfl : i = xs.length := by omega
    rw [List.take_length] at y1
    refine ex rfl (sq (rg (r (mv y1) (r (sa rfl) (re (rt ?_))))))
    exact fin1 (v := .int .i64 (k + (szW xs : Int))) Try.results102 rfl ⟨rfl, hc⟩
theorem markDisk {w : World} {F G : List Nat} {v u : Value} {xs : List Int} {ps : List (Int × List Int)} {k : Int} {e e2 : TypeId} (hW : u8.W e w F v xs) (hn : F.Nodup) (hP : kW.W e2 w G u ps) (hm : G.Nodup) (hx : ∀ k, k ∈ F → k ∉ G)
    (hk : 0 ≤ k ∧ k ≤ 1000000) (lx : xs.length ≤ 1000000000) (lp : szW ps ≤ 1000000000) :
    Ret Try.prog 42 #[.agg #[v, u], .int .i64 k] w (fun r w' => r = .int .i64 (k + xs.length + szW ps) ∧ ∃ F' G', u8.W e w' F' v (marks k xs.length) ∧ kW.W e2 w' G' u (mkW (k + xs.length) ps) ∧ Ch (F ++ G) w w') := by
  refine enter Try.func42 rfl Try.ntmps42 (by rfl) (by rfl) ?_
  refine sq (rg (bx rfl ?_))
  intro g wg eg sg bg cg
  refine r (sa rfl) (re (sq (rg (r (fa Try.underlying49 rfl ti40 rfl rfl) (r (ldb Try.underlying40 rfl rfl bg rfl) (r (mv rfl) (cl go37 (markByteS (hW.t cg) hn (by omega) lx) (ac rfl (ac rfl an)) ?_)))))))
  rintro r wm ⟨rfl, F1, A⟩
  refine r (sa rfl) (re (sq (rg (r (fa Try.underlying49 rfl ti47 rfl rfl) ?_))))
  have cm : Ch F wg wm := A.ch.mono (fun j hj _ => W_own (hW.t cg) j hj)
  have bm : B wm g 49 [v, u] := cm.b bg (fun h => by have := hW.lt _ h; omega)
  have hP1 := (hP.t cg).tt cm (fun j hj hf => hx j hf hj)
  have ct : Ch (F ++ G) w wm := (cg.mono (fun j hj _ => by cases hj)).trans cm (fun j hj _ => List.mem_append_left _ hj)
  refine r (ldb Try.underlying47 rfl rfl bm rfl) (r (mv rfl) (cl go101 (markWriteS hP1 hm (by omega) lp) (ac rfl (ac rfl an)) ?_))
  rintro r wn ⟨rfl, G1, M⟩
  refine r (sa rfl) (re (sq (rg (r (mv rfl) (r (sa rfl) (re (rt ?_)))))))
  exact fin1 (v := .int .i64 (k + xs.length + szW ps)) Try.results42 rfl ⟨rfl, F1, G1, A.W.tt M.ch (fun j hj hg => by
    rcases A.sub j hj with h | h | h
    · exact hx j h hg
    · cases h
    · have := hP.lt j hg; have := cg.size; omega), M.W, ct.trans M.ch (fun j hj _ => List.mem_append_right _ hj)⟩
theorem heldDisk {w : World} {F G : List Nat} {v u : Value} {n : Nat} {ps : List (Int × List Int)} {k : Int} (hx : u8.R w F v (marks k n)) (hp : kW.R w G u (mkW (k + n) ps)) (hk : 0 ≤ k ∧ k ≤ 1000000) (hln : n ≤ 1000000000) (lp : szW ps ≤ 1000000000) :
    Ret Try.prog 43 #[.agg #[v, u], .int .i64 k] w (fun r w' => r = .int .i64 (k + n + szW ps) ∧ Ch [] w w') := by
  refine enter Try.func43 rfl Try.ntmps43 (by rfl) (by rfl) ?_
  refine sq (rg (bx rfl ?_))
  intro g2 wg2 eg2 sg2 bg2 cg2
  have qg2 := le_new (Ch.refl [] w).size eg2
  have hcg2 : Ch [] w wg2 := (Ch.refl [] w).t cg2
  replace bg2 : B wg2 g2 49 ([v, u]) := bg2
  refine r (sa rfl) (re (sq (rg (r (fa Try.underlying49 rfl ti40 rfl rfl) (r (ldb Try.underlying40 rfl rfl bg2 rfl) (r (mv rfl) (cl go38 (heldByteS (hx.t hcg2) (by omega) hln) (ac rfl (ac rfl an)) ?_)))))))
  rintro r wa ⟨rfl, ca⟩
  replace bg2 := ca.b0 bg2
  have hca : Ch [] w wa := hcg2.t ca
  refine r (sa rfl) (re (sq (sq (rg (r (mv rfl) (r (bi rfl rfl rfl) (re ?_)))))))
  refine cf ((rfl : _ = Value.bool (decide ((k + (n : Int)) < 0))).trans (congrArg Value.bool (show (decide ((k + (n : Int)) < 0)) = false from decide_eq_false (by omega)))) ?_
  refine sk (sq (rg (r (fa Try.underlying49 rfl ti47 rfl rfl) (r (ldb Try.underlying47 rfl rfl bg2 rfl) (r (mv rfl) (cl go102 (heldWriteS (hp.t hca) (by omega) lp) (ac rfl (ac rfl an)) ?_))))))
  rintro r wb ⟨rfl, cb⟩
  replace bg2 := cb.b0 bg2
  have hcb : Ch [] w wb := hca.t cb
  refine r (sa rfl) (re (sq (sq ?_)))
  refine gen (fun ρ => ρ 1 = .int .i64 (k + (n : Int) + (szW ps : Int)) ∧ ρ 4 = .int .i64 0 ∧ True) ⟨rfl, rfl, trivial⟩ ?_
  rintro ρ ⟨z1, z4, -⟩
  refine rg (r (mv z1) (r (bi rfl rfl rfl) (re ?_)))
  refine cf ((rfl : _ = Value.bool (decide ((k + (n : Int) + (szW ps : Int)) < 0))).trans (congrArg Value.bool (show (decide ((k + (n : Int) + (szW ps : Int)) < 0)) = false from decide_eq_false (by omega)))) ?_
  refine sk (sq (rg (r (mv z1) (r (sa rfl) (re (rt ?_))))))
  exact fin1 (v := .int .i64 (k + (n : Int) + (szW ps : Int))) Try.results43 rfl ⟨rfl, hcb⟩
/-- A disk that is the call's own and new. -/
def NewD (w w' : World) (r : Value) (D : List Int × List (Int × List Int)) : Prop := ∃ v u F G, r = .agg #[v, u] ∧ u8.W 5 w' F v D.1 ∧ kW.W 112 w' G u D.2 ∧ F.Nodup ∧ G.Nodup ∧ (∀ k, k ∈ F → k ∉ G) ∧ (∀ k, k ∈ F → w.heap.size ≤ k) ∧ (∀ k, k ∈ G → w.heap.size ≤ k)
/-- The empty disk of so many blocks. -/
def zer (b : Int) : List Int := if 1 ≤ b ∧ b ≤ 1200 then List.replicate (64 * b).toNat 0 else []
theorem spec_NewDisk {w : World} {b : Int} : Ret Try.prog 39 #[.int .i64 b] w (fun r w' => NewD w w' r (zer b, []) ∧ Ch [] w w') := by
  refine enter Try.func39 rfl Try.ntmps39 (by rfl) (by rfl) ?_
  refine sq (rg (al ti49 ?_))
  intro g2 wg2 eg2 sg2 bg2 cg2
  have qg2 := le_new (Ch.refl [] w).size eg2
  have hcg2 : Ch [] w wg2 := (Ch.refl [] w).t cg2
  replace bg2 : B wg2 g2 49 ([.slice none 0 0, .slice none 0 0]) := bg2
  refine re (sq (sq (rg (r (mv rfl) (r (bi rfl rfl rfl) (r (mv rfl) ?_))))))
  refine sp 5 rfl (fun h1 => ?_) (fun h1 => ?_)
  · refine gn rfl rfl rfl (gn rfl rfl rfl (r (pk rfl rfl) (re (ct rfl (sq (rg (r (bd (r := [.slice none 0 0, .slice none 0 0]) ti49 pl49 pn rfl) (st ti49 rfl rfl bg2 rfl (Nat.le_of_ble_eq_true rfl) (one_all rfl) ?_))))))))
    intro wS1g2 sS1g2 bg2 cS1g2
    have hcS1g2 : Ch [] w wS1g2 := hcg2.own cS1g2 qg2
    replace bg2 : B wS1g2 g2 49 ([.slice none 0 0, .slice none 0 0]) := bg2
    refine re (rt ?_)
    rw [show zer b = [] from if_neg (by omega)]
    exact finc  (cs := [.slice none 0 0, .slice none 0 0]) Try.results39 Try.underlying49 rfl ti49 rfl bg2 rfl  ⟨⟨_, _, [], [], rfl, Kd.nil_W _ _ _, Kd.nil_W _ _ _, List.nodup_nil, List.nodup_nil, by simp, by simp, by simp⟩, hcS1g2⟩
  · refine gy rfl rfl rfl (r (mv rfl) (gy rfl rfl rfl (r (bi rfl rfl rfl) (r (pk rfl rfl) (re ?_)))))
    refine cp rfl (fun h2 => ?_) (fun h2 => ?_)
    · refine sq (rg (r (bd (r := [.slice none 0 0, .slice none 0 0]) ti49 pl49 pn rfl) (st ti49 rfl rfl bg2 rfl (Nat.le_of_ble_eq_true rfl) (one_all rfl) ?_)))
      intro wS1g2 sS1g2 bg2 cS1g2
      have hcS1g2 : Ch [] w wS1g2 := hcg2.own cS1g2 qg2
      replace bg2 : B wS1g2 g2 49 ([.slice none 0 0, .slice none 0 0]) := bg2
      refine re (rt ?_)
      rw [show zer b = [] from if_neg (by omega)]
      exact finc  (cs := [.slice none 0 0, .slice none 0 0]) Try.results39 Try.underlying49 rfl ti49 rfl bg2 rfl  ⟨⟨_, _, [], [], rfl, Kd.nil_W _ _ _, Kd.nil_W _ _ _, List.nodup_nil, List.nodup_nil, by simp, by simp, by simp⟩, hcS1g2⟩
    · obtain ⟨m, hm⟩ : ∃ m : Nat, b * 64 = (m : Int) := ⟨(b * 64).toNat, by omega⟩
      have hz : zer b = List.replicate m 0 := by rw [zer, if_pos (by omega)]; congr 1; omega
      refine sk (sq (rg (r (mv rfl) (r (ml ((m : Int)) rfl rfl (by omega)) (mk (dk := u8) (m := m) 0 Try.underlying40 ti5 (fun _ => ⟨rfl, rfl⟩) rfl rfl (by omega) ?_)))))
      intro v1 w1 F1 W1 n1 f1 c1
      have d1_g2 := old_d f1 bg2.lt
      replace f1 := low_t hcg2 f1
      replace bg2 := c1.b0 bg2
      have hc1 : Ch [] w w1 := hcg2.t c1
      refine r (bd (r := [v1, .slice none 0 0]) ti49 pl49 (pc rfl (cel1 (W1.R).oneCell) pn) rfl) (st ti49 rfl rfl bg2 rfl (Nat.le_of_ble_eq_true rfl) (oc (W1.R).oneCell (oc rfl on)) ?_)
      intro wS4g2 sS4g2 bg2 cS4g2
      replace W1 := W1.tt cS4g2 d1_g2
      have hcS4g2 : Ch [] w wS4g2 := hc1.own cS4g2 qg2
      replace bg2 : B wS4g2 g2 49 ([v1, .slice none 0 0]) := bg2
      refine re (rt ?_)
      rw [hz]
      exact finc  (cs := [v1, .slice none 0 0]) Try.results39 Try.underlying49 rfl ti49 rfl bg2 rfl  ⟨⟨_, _, F1, [], rfl, W1, Kd.nil_W _ _ _, n1, List.nodup_nil, by simp, f1, by simp⟩, hcS4g2⟩
theorem impl_NewDisk {w : World} {b : Int} : Ret Try.prog 40 #[.int .i64 b] w (fun r w' => NewD w w' r (zer b, []) ∧ Ch [] w w') := by
  refine enter Try.func40 rfl Try.ntmps40 (by rfl) (by rfl) ?_
  refine sq (rg (al ti49 ?_))
  intro g2 wg2 eg2 sg2 bg2 cg2
  have qg2 := le_new (Ch.refl [] w).size eg2
  have hcg2 : Ch [] w wg2 := (Ch.refl [] w).t cg2
  replace bg2 : B wg2 g2 49 ([.slice none 0 0, .slice none 0 0]) := bg2
  refine re (sq (sq (rg (r (mv rfl) (r (bi rfl rfl rfl) (r (mv rfl) ?_))))))
  refine sp 5 rfl (fun h1 => ?_) (fun h1 => ?_)
  · refine gn rfl rfl rfl (gn rfl rfl rfl (r (pk rfl rfl) (re (ct rfl (sq (rg (r (bd (r := [.slice none 0 0, .slice none 0 0]) ti49 pl49 pn rfl) (st ti49 rfl rfl bg2 rfl (Nat.le_of_ble_eq_true rfl) (one_all rfl) ?_))))))))
    intro wS1g2 sS1g2 bg2 cS1g2
    have hcS1g2 : Ch [] w wS1g2 := hcg2.own cS1g2 qg2
    replace bg2 : B wS1g2 g2 49 ([.slice none 0 0, .slice none 0 0]) := bg2
    refine re (rt ?_)
    rw [show zer b = [] from if_neg (by omega)]
    exact finc  (cs := [.slice none 0 0, .slice none 0 0]) Try.results40 Try.underlying49 rfl ti49 rfl bg2 rfl  ⟨⟨_, _, [], [], rfl, Kd.nil_W _ _ _, Kd.nil_W _ _ _, List.nodup_nil, List.nodup_nil, by simp, by simp, by simp⟩, hcS1g2⟩
  · refine gy rfl rfl rfl (r (mv rfl) (gy rfl rfl rfl (r (bi rfl rfl rfl) (r (pk rfl rfl) (re ?_)))))
    refine cp rfl (fun h2 => ?_) (fun h2 => ?_)
    · refine sq (rg (r (bd (r := [.slice none 0 0, .slice none 0 0]) ti49 pl49 pn rfl) (st ti49 rfl rfl bg2 rfl (Nat.le_of_ble_eq_true rfl) (one_all rfl) ?_)))
      intro wS1g2 sS1g2 bg2 cS1g2
      have hcS1g2 : Ch [] w wS1g2 := hcg2.own cS1g2 qg2
      replace bg2 : B wS1g2 g2 49 ([.slice none 0 0, .slice none 0 0]) := bg2
      refine re (rt ?_)
      rw [show zer b = [] from if_neg (by omega)]
      exact finc  (cs := [.slice none 0 0, .slice none 0 0]) Try.results40 Try.underlying49 rfl ti49 rfl bg2 rfl  ⟨⟨_, _, [], [], rfl, Kd.nil_W _ _ _, Kd.nil_W _ _ _, List.nodup_nil, List.nodup_nil, by simp, by simp, by simp⟩, hcS1g2⟩
    · obtain ⟨m, hm⟩ : ∃ m : Nat, b * 64 = (m : Int) := ⟨(b * 64).toNat, by omega⟩
      have hz : zer b = List.replicate m 0 := by rw [zer, if_pos (by omega)]; congr 1; omega
      refine sk (sq (rg (r (mv rfl) (r (ml ((m : Int)) rfl rfl (by omega)) (mk (dk := u8) (m := m) 0 Try.underlying40 ti5 (fun _ => ⟨rfl, rfl⟩) rfl rfl (by omega) ?_)))))
      intro v1 w1 F1 W1 n1 f1 c1
      have d1_g2 := old_d f1 bg2.lt
      replace f1 := low_t hcg2 f1
      replace bg2 := c1.b0 bg2
      have hc1 : Ch [] w w1 := hcg2.t c1
      refine r (bd (r := [v1, .slice none 0 0]) ti49 pl49 (pc rfl (cel1 (W1.R).oneCell) pn) rfl) (st ti49 rfl rfl bg2 rfl (Nat.le_of_ble_eq_true rfl) (oc (W1.R).oneCell (oc rfl on)) ?_)
      intro wS4g2 sS4g2 bg2 cS4g2
      replace W1 := W1.tt cS4g2 d1_g2
      have hcS4g2 : Ch [] w wS4g2 := hc1.own cS4g2 qg2
      replace bg2 : B wS4g2 g2 49 ([v1, .slice none 0 0]) := bg2
      refine re (rt ?_)
      rw [hz]
      exact finc  (cs := [v1, .slice none 0 0]) Try.results40 Try.underlying49 rfl ti49 rfl bg2 rfl  ⟨⟨_, _, F1, [], rfl, W1, Kd.nil_W _ _ _, n1, List.nodup_nil, by simp, f1, by simp⟩, hcS4g2⟩
end Go.Proofs.Ytgpcanjmgdmdhaa
