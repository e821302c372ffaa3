/-
  CONTRACTS 10: tables: the laws' helpers. No condition.
-/
import Derived.Test.Ytgpcanjmgdmdhaa9
namespace Go.Proofs.Ytgpcanjmgdmdhaa
open Go Go.Eng
set_option maxRecDepth 100000
set_option maxHeartbeats 4000000
set_option linter.unusedVariables false
/-- An entry of a table: the address, whether it is an inode's. -/
abbrev kE : Kd (Int × Bool) := i64.prod Kd.bool
theorem en_at {w : World} {F : List Nat} {x : Int × Bool} {ad : Addr} {cs : List Value} (h : Plc kE w F x ad cs) : ∀ m u, [Value.int .i64 x.1, Value.bool x.2][m]? = some u → w.cell? (ad.add m) = some u := by
  obtain ⟨Fi, hF, ⟨F1, F2, c1, c2, rfl, rfl, ⟨rfl, rfl⟩, ⟨rfl, rfl⟩⟩, hc⟩ := h
  exact hc
theorem set_rep' {α : Type} (xs : List α) (z : α) (k : Nat) (hk : k < xs.length) (y : α) (hy : y = xs[k]) : (xs.take k ++ List.replicate (xs.length - k) z).set k y = xs.take (k + 1) ++ List.replicate (xs.length - (k + 1)) z := by
  subst hy; exact set_rep xs z k hk
theorem toEntry {w : World} {x : Int × Bool} : Ret Try.prog 103 #[.agg #[.int .i64 x.1, .bool x.2]] w (fun r w' => r = .agg #[.int .i64 x.1, .bool x.2] ∧ Ch [] w w') := by
  refine enter Try.func103 rfl Try.ntmps103 (by rfl) (by rfl) ?_
  refine sq (rg (bx rfl ?_))
  intro g1 wg1 eg1 sg1 bg1 cg1
  have qg1 := le_new (Ch.refl [] w).size eg1
  have hcg1 : Ch [] w wg1 := (Ch.refl [] w).t cg1
  replace bg1 : B wg1 g1 126 ([.int .i64 x.1, .bool x.2]) := bg1
  refine al ti70 ?_
  intro g2 wg2 eg2 sg2 bg2 cg2
  have ng1_g2 := ne_new bg1.lt eg2
  have qg2 := le_new hcg1.size eg2
  replace bg1 := cg2.b0 bg1
  have hcg2 : Ch [] w wg2 := hcg1.t cg2
  replace bg2 : B wg2 g2 70 ([.int .i64 0, .bool false]) := bg2
  refine re (sq (rg (al ti70 ?_)))
  intro g3 wg3 eg3 sg3 bg3 cg3
  have ng1_g3 := ne_new bg1.lt eg3
  have ng2_g3 := ne_new bg2.lt eg3
  have qg3 := le_new hcg2.size eg3
  replace bg1 := cg3.b0 bg1
  replace bg2 := cg3.b0 bg2
  have hcg3 : Ch [] w wg3 := hcg2.t cg3
  replace bg3 : B wg3 g3 70 ([.int .i64 0, .bool false]) := bg3
  refine re (sq (rg (r (fa Try.underlying126 rfl ti2 rfl rfl) (r (ldb Try.underlying2 rfl rfl bg1 rfl) (r (fa Try.underlying70 rfl ti2 rfl rfl) (st ti2 rfl rfl bg3 rfl (Nat.le_of_ble_eq_true rfl) (one_all rfl) ?_))))))
  intro wS3g3 sS3g3 bg3 cS3g3
  replace bg1 := cS3g3.b bg1 (nin1 ng1_g3)
  replace bg2 := cS3g3.b bg2 (nin1 ng2_g3)
  have hcS3g3 : Ch [] w wS3g3 := hcg3.own cS3g3 qg3
  replace bg3 : B wS3g3 g3 70 ([.int .i64 x.1, .bool false]) := bg3
  refine re (sq (rg (r (fa Try.underlying126 rfl ti4 rfl rfl) (r (ldb Try.underlying4 rfl rfl bg1 rfl) (r (fa Try.underlying70 rfl ti4 rfl rfl) (st ti4 rfl rfl bg3 rfl (Nat.le_of_ble_eq_true rfl) (one_all rfl) ?_))))))
  intro wS3g3 sS3g3 bg3 cS3g3
  replace bg1 := cS3g3.b bg1 (nin1 ng1_g3)
  replace bg2 := cS3g3.b bg2 (nin1 ng2_g3)
  have hcS3g3 : Ch [] w wS3g3 := hcS3g3.own cS3g3 qg3
  replace bg3 : B wS3g3 g3 70 ([.int .i64 x.1, .bool x.2]) := bg3
  refine re (sq (rg (r (lab [.int .i64 x.1, .bool x.2] Try.underlying70 rfl ti70 rfl bg3 rfl rfl) (st ti70 rfl rfl bg2 rfl (Nat.le_of_ble_eq_true rfl) (one_all rfl) ?_))))
  intro wS1g2 sS1g2 bg2 cS1g2
  replace bg1 := cS1g2.b bg1 (nin1 ng1_g2)
  replace bg3 := cS1g2.b bg3 (nin1 ng2_g3.symm)
  have hcS1g2 : Ch [] w wS1g2 := hcS3g3.own cS1g2 qg2
  replace bg2 : B wS1g2 g2 70 ([.int .i64 x.1, .bool x.2]) := bg2
  refine re (rt ?_)
  exact finc  (cs := [.int .i64 x.1, .bool x.2]) Try.results103 Try.underlying70 rfl ti70 rfl bg2 rfl  ⟨rfl, hcS1g2⟩
theorem toEntryS {w : World} {F : List Nat} {v : Value} {xs : List (Int × Bool)} (hx : kE.R w F v xs) (lx : xs.length ≤ 1000000000) :
    Ret Try.prog 46 #[v] w (fun r w' => New kE 70 w w' r xs ∧ Ch [] w w') := by
  refine enter Try.func46 rfl Try.ntmps46 (by rfl) (by rfl) ?_
  refine sq (rg (r (sa rfl) (re (sq (rg (r (mv rfl) (r (ln Try.underlying54 rfl ((hx.t (Ch.refl [] w)))) (mk (dk := kE) (m := xs.length) (0, false) Try.underlying57 ti70 (fun _ => ⟨[], [], [_], [_], rfl, rfl, ⟨rfl, rfl⟩, ⟨rfl, rfl⟩⟩) rfl rfl (by omega) ?_))))))))
  intro v1 w1 F1 W1 n1 f1 c1
  replace f1 := low_t (Ch.refl [] w) f1
  have hc1 : Ch [] w w1 := (Ch.refl [] w).t c1
  refine r (sa rfl) (re (sq (sq (rg (r (sa rfl) (re (bl ?_)))))))
  refine lp (α := Nat × List Nat) (fun (k, F1) ρ w' => ρ 0 = v ∧ ρ 3 = v1 ∧ ρ 4 = .int .i64 (k : Int) ∧ Ch [] w w' ∧ Kd.W kE 70 w' F1 v1 (xs.take k ++ List.replicate (xs.length - k) (0, false)) ∧ F1.Nodup ∧ (∀ k, k ∈ F1 → w.heap.size ≤ k) ∧ k ≤ xs.length) (fun (k, F1) => xs.length - k) (0, F1) ?_ ?_
  · exact ⟨rfl, rfl, rfl, hc1, W1, n1, f1, by omega⟩
  rintro ⟨k, F1⟩ ρ w' ⟨y0, y3, y4, hc, W1, n1, f1, hk⟩
  refine sq (sq (rg (r (mv y4) (r (mv y0) (r (ln Try.underlying54 rfl ((hx.t hc))) (r (bi rfl rfl rfl) (re ?_)))))))
  refine cp rfl (fun h => ?_) (fun h => ?_)
  · have hk' : k < xs.length := by omega
    refine sk (sq (bl (rg (r (mv y3) (r (mv y4) (r (mv y0) (r (mv y4) ?_)))))))
    obtain ⟨c18, ad18, k18, e18, p18⟩ := (hx).place k (by omega)
    have q18 := en_at p18
    refine r (ix Try.underlying54 ti126 e18 rfl (by omega)) (r (la [.int .i64 ((xs[k]).1), .bool ((xs[k]).2)] Try.underlying126 rfl ti126 rfl rfl (fun m u h => Ch.cell hc (q18 m u h))) (cl go103 (toEntry (x := xs[k])) (ac rfl an) ?_))
    rintro r wt ⟨rfl, ct⟩
    replace W1 := W1.t ct
    have hct : Ch [] w wt := hc.t ct
    refine ixs (a := (xs[k].1, xs[k].2)) (j := k) Try.underlying57 ti70 rfl W1 rfl (by simp; omega) (fun _ => rfl) ⟨[], [], [_], [_], rfl, rfl, ⟨rfl, rfl⟩, ⟨rfl, rfl⟩⟩ (nodup_nil n1) ?_
    intro _ w21 F21 s21 A21
    have hA21 := A21.hc W1 hct f1
    replace f1 := A21.low hct f1
    replace n1 := A21.nd
    replace W1 := A21.W
    refine re (be ?_)
    refine gen (fun ρ => ρ 0 = v ∧ ρ 3 = v1 ∧ ρ 4 = .int .i64 (k : Int) ∧ True) ⟨y0, y3, y4, trivial⟩ ?_
    rintro ρ ⟨z0, z3, z4, -⟩
    refine rg (r (mv z4) (r (ad ((k : Int) + 1) rfl rfl (by omega)) (r (sa rfl) (re ?_))))
    rw [set_rep' xs (0, false) k hk' _ rfl] at W1
    exact ag (k + 1, F21) ⟨z0, z3, rfl, hA21, W1, n1, f1, by omega⟩ (by first | omega | (dsimp only; omega))
  · obtain rfl : k = xs.length := by omega
    rw [List.take_length, Nat.sub_self, List.replicate_zero, List.append_nil] at W1
    refine ex rfl (sq (rg (r (mv y3) (r (sa rfl) (re (rt ?_))))))
    exact fin1 (v := v1) Try.results46 rfl ⟨⟨F1, W1, n1, f1⟩, hc⟩
theorem eqEntry {w : World} {x y : Int × Bool} : Ret Try.prog 105 #[.agg #[.int .i64 x.1, .bool x.2], .agg #[.int .i64 y.1, .bool y.2]] w (fun r w' => r = .bool (decide (x = y)) ∧ Ch [] w w') := by
  refine enter Try.func105 rfl Try.ntmps105 (by rfl) (by rfl) ?_
  refine sq (rg (bx rfl ?_))
  intro g2 wg2 eg2 sg2 bg2 cg2
  have qg2 := le_new (Ch.refl [] w).size eg2
  have hcg2 : Ch [] w wg2 := (Ch.refl [] w).t cg2
  replace bg2 : B wg2 g2 70 ([.int .i64 x.1, .bool x.2]) := bg2
  refine bx rfl ?_
  intro g3 wg3 eg3 sg3 bg3 cg3
  have ng2_g3 := ne_new bg2.lt eg3
  have qg3 := le_new hcg2.size eg3
  replace bg2 := cg3.b0 bg2
  have hcg3 : Ch [] w wg3 := hcg2.t cg3
  replace bg3 : B wg3 g3 70 ([.int .i64 y.1, .bool y.2]) := bg3
  refine r (sa rfl) (re (sq (sq (rg (r (fa Try.underlying70 rfl ti2 rfl rfl) (r (ldb Try.underlying2 rfl rfl bg2 rfl) (r (fa Try.underlying70 rfl ti2 rfl rfl) (r (ldb Try.underlying2 rfl rfl bg3 rfl) (r (bi rfl rfl rfl) (re ?_))))))))))
  refine cpn rfl (fun h => ?_) (fun h => ?_)
  · refine sq (rg (r (sa rfl) (re (rt ?_))))
    exact fin1 (v := .bool false) Try.results105 rfl ⟨congrArg Value.bool (decide_eq_false (fun e => h (by rw [e]))).symm, hcg3⟩
  · refine sk (sq (sq (rg (r (fa Try.underlying70 rfl ti4 rfl rfl) (r (ldb Try.underlying4 rfl rfl bg2 rfl) (r (fa Try.underlying70 rfl ti4 rfl rfl) (r (ldb Try.underlying4 rfl rfl bg3 rfl) (r (bne_ Try.underlying4 rfl rfl) (re ?_)))))))))
    refine cd rfl (fun h2 => ?_) (fun h2 => ?_)
    · refine sq ?_
      refine gen (fun ρ => ρ 4 = .bool false ∧ True) ⟨rfl, trivial⟩ ?_
      rintro ρ ⟨z4, -⟩
      refine rg (r (sa rfl) (re (rt ?_)))
      exact fin1 (v := .bool false) Try.results105 rfl ⟨congrArg Value.bool (decide_eq_false (fun e => by rw [e] at h2; simp at h2)).symm, hcg3⟩
    · refine sk (sq ?_)
      refine gen (fun ρ => ρ 4 = .bool false ∧ True) ⟨rfl, trivial⟩ ?_
      rintro ρ ⟨z4, -⟩
      refine rg (r (sa rfl) (re (rt ?_)))
      exact fin1 (v := .bool true) Try.results105 rfl ⟨congrArg Value.bool (decide_eq_true (Prod.ext h (by simpa using h2))).symm, hcg3⟩
theorem eqEntryS {w : World} {F G : List Nat} {v u : Value} {xs ys : List (Int × Bool)} (hx : kE.R w F v xs) (hy : kE.R w G u ys) (lx : xs.length ≤ 1000000000) :
    Ret Try.prog 48 #[v, u] w (fun r w' => r = .bool (decide (xs = ys)) ∧ Ch [] w w') := by
  refine enter Try.func48 rfl Try.ntmps48 (by rfl) (by rfl) ?_
  refine sq (rg (r (sa rfl) (re (sq (sq (rg (r (mv rfl) (r (ln Try.underlying57 rfl ((hx.t (Ch.refl [] w)))) (r (mv rfl) (r (ln Try.underlying57 rfl ((hy.t (Ch.refl [] w)))) (r (bi rfl rfl rfl) (re ?_))))))))))))
  refine cpn rfl (fun h => ?_) (fun h => ?_)
  · refine sq (rg (r (sa rfl) (re (rt ?_))))
    exact fin1 (v := .bool false) Try.results48 rfl ⟨congrArg Value.bool (decide_eq_false (fun e => h (by rw [e]))).symm, (Ch.refl [] w)⟩
  · have h' : xs.length = ys.length := by omega
    refine sk (sq (sq (rg (r (sa rfl) (re (bl ?_))))))
    refine lp (α := Nat) (fun k ρ w' => ρ 0 = v ∧ ρ 1 = u ∧ ρ 5 = .int .i64 (k : Int) ∧ Ch [] w w' ∧ k ≤ xs.length ∧ xs.take k = ys.take k) (fun k => xs.length - k) 0 ?_ ?_
    · exact ⟨rfl, rfl, rfl, (Ch.refl [] w), ⟨by omega, rfl⟩⟩
    rintro k ρ w' ⟨y0, y1, y5, hc, ⟨hk, ht⟩⟩
    refine sq (sq (rg (r (mv y5) (r (mv y0) (r (ln Try.underlying57 rfl ((hx.t hc))) (r (bi rfl rfl rfl) (re ?_)))))))
    refine cp rfl (fun hlt => ?_) (fun hlt => ?_)
    · have hlt' : k < xs.length := by omega
      have hlt2 : k < ys.length := by omega
      refine sk (sq (bl (sq ?_)))
      refine rdd mixed ?_
      intro wD cD
      have hcD : Ch [] w wD := hc.t cD
      refine dt 0 rfl (by kernel_rfl) (mv y0) (dt 1 rfl (by kernel_rfl) (mv y5) ?_)
      obtain ⟨c19, ad19, k19, e19, p19⟩ := (hx).place k (by omega)
      have q19 := en_at p19
      refine dt 2 rfl (by kernel_rfl) (ix Try.underlying57 ti70 e19 rfl (by omega)) (dt 3 rfl (by kernel_rfl) (la [.int .i64 ((xs[k]).1), .bool ((xs[k]).2)] Try.underlying70 rfl ti70 rfl rfl (fun m u h => Ch.cell hcD (q19 m u h))) (dt 4 rfl (by kernel_rfl) (mv y1) (dt 5 rfl (by kernel_rfl) (mv y5) ?_)))
      obtain ⟨c23, ad23, k23, e23, p23⟩ := (hy).place k (by omega)
      have q23 := en_at p23
      refine dt 6 rfl (by kernel_rfl) (ix Try.underlying57 ti70 e23 rfl (by omega)) (dt 7 rfl (by kernel_rfl) (la [.int .i64 ((ys[k]).1), .bool ((ys[k]).2)] Try.underlying70 rfl ti70 rfl rfl (fun m u h => Ch.cell hcD (q23 m u h))) (d1 8 (by kernel_rfl) <| uc rfl go105 (ac rfl (ac rfl an)) (eqEntry (x := xs[k]) (y := ys[k])) ?_))
      rintro r wq ⟨rfl, cq⟩
      have hcqD := (Ch.refl [] wD).t cq
      have hcq : Ch [] w wq := hcD.t cq
      refine ⟨hcqD, ?_⟩
      refine dt 9 rfl (by kernel_rfl) (nt rfl) ?_
      refine dd (by kernel_rfl) (fun _ => ?_)
      refine cpn rfl (fun hne => ?_) (fun hne => ?_)
      · refine sq ?_
        refine gen (fun ρ => ρ 0 = v ∧ ρ 1 = u ∧ ρ 5 = .int .i64 (k : Int) ∧ True) ⟨y0, y1, y5, trivial⟩ ?_
        rintro ρ ⟨z0, z1, z5, -⟩
        refine rg (r (sa rfl) (re (rt ?_)))
        exact fin1 (v := .bool false) Try.results48 rfl ⟨congrArg Value.bool (decide_eq_false (fun e => hne (by subst e; rfl))).symm, hcq⟩
      · refine sk (be ?_)
        refine gen (fun ρ => ρ 0 = v ∧ ρ 1 = u ∧ ρ 5 = .int .i64 (k : Int) ∧ True) ⟨y0, y1, y5, trivial⟩ ?_
        rintro ρ ⟨z0, z1, z5, -⟩
        refine rg (r (mv z5) (r (ad ((k : Int) + 1) rfl rfl (by omega)) (r (sa rfl) (re ?_))))
        exact ag (k + 1) ⟨z0, z1, rfl, hcq, ⟨by omega, take_succ' hlt' (by omega) ht hne⟩⟩ (by first | omega | (dsimp only; omega))
    · refine ex rfl (sq (rg (r (sa rfl) (re (rt ?_)))))
      exact fin1 (v := .bool true) Try.results48 rfl ⟨congrArg Value.bool (decide_eq_true (by rw [List.take_of_length_le (by omega), List.take_of_length_le (by omega)] at ht; exact ht)).symm, hc⟩
theorem szEntryS {w : World} {F : List Nat} {v : Value} {xs : List (Int × Bool)} {m : Int} (hx : kE.R w F v xs) (lx : xs.length ≤ 9223372036854775807) (hm : 0 ≤ m ∧ m ≤ 1048576) :
    Ret Try.prog 44 #[v, .int .i64 m] w (fun r w' => r = .int .i64 (if m < xs.length then -1 else m - xs.length) ∧ Ch [] w w') := by
  refine enter Try.func44 rfl Try.ntmps44 (by rfl) (by rfl) ?_
  refine sq (rg (r (sa rfl) (re (sq (rg (r (mv rfl) (r (mv rfl) (r (ln Try.underlying54 rfl ((hx.t (Ch.refl [] w)))) (r (sb (m - (xs.length : Int)) rfl rfl (by omega)) (r (sa rfl) (re (sq (sq (rg (r (mv rfl) (r (bi rfl rfl rfl) (re ?_)))))))))))))))))
  refine cp rfl (fun h => ?_) (fun h => ?_)
  · refine sq (rg (r (sa rfl) (re (rt ?_))))
    exact fin1 (v := .int .i64 (-1)) Try.results44 rfl ⟨by rw [if_pos (by omega)], (Ch.refl [] w)⟩
  · refine sk (sq (rg (r (mv rfl) (r (sa rfl) (re (rt ?_))))))
    exact fin1 (v := .int .i64 (m - (xs.length : Int))) Try.results44 rfl ⟨by rw [if_neg (by omega)], (Ch.refl [] w)⟩
theorem entry_set0 {w : World} {Fi : List Nat} {ci : List Value} {x : Int × Bool} {y : Int} (h : kE.O w Fi x ci) : kE.O w Fi (y, x.2) (splice ci 0 [.int .i64 y]) := by
  obtain ⟨F1, F2, c1, c2, rfl, rfl, ⟨rfl, rfl⟩, ⟨rfl, rfl⟩⟩ := h
  exact ⟨[], [], [_], [_], rfl, rfl, ⟨rfl, rfl⟩, ⟨rfl, rfl⟩⟩
theorem entry_set1 {w : World} {Fi : List Nat} {ci : List Value} {x : Int × Bool} {y : Bool} (h : kE.O w Fi x ci) : kE.O w Fi (x.1, y) (splice ci 1 [.bool y]) := by
  obtain ⟨F1, F2, c1, c2, rfl, rfl, ⟨rfl, rfl⟩, ⟨rfl, rfl⟩⟩ := h
  exact ⟨[], [], [_], [_], rfl, rfl, ⟨rfl, rfl⟩, ⟨rfl, rfl⟩⟩
theorem markEntryS {w : World} {F : List Nat} {v : Value} {xs : List (Int × Bool)} {k : Int} {e : TypeId} (hW : kE.W e w F v xs) (hn : F.Nodup) (hk : 0 ≤ k ∧ k ≤ 1000000) (lx : xs.length ≤ 1000000000) :
    Ret Try.prog 49 #[v, .int .i64 k] w (fun r w' => r = .int .i64 (k + 2 * xs.length) ∧ ∃ F' ys, Mut kE e w w' F F' v ys) := by
  refine enter Try.func49 rfl Try.ntmps49 (by rfl) (by rfl) ?_
  refine sq (rg (r (sa rfl) (re (sq (sq (rg (r (sa rfl) (re (bl ?_)))))))))
  refine lp (α := Nat × List Nat × List (Int × Bool)) (fun (i, G, ys) ρ w' => ρ 0 = v ∧ ρ 1 = .int .i64 (k + 2 * (i : Int)) ∧ ρ 5 = .int .i64 (i : Int) ∧ i ≤ xs.length ∧ ys.length = xs.length ∧ Mut kE e w w' F G v ys) (fun (i, G, ys) => xs.length - i) (0, F, xs) ?_ ?_
  · exact ⟨rfl, (show _ = Value.int .i64 k from rfl).trans (by simp), rfl, ⟨by omega, rfl, Mut.refl hW hn⟩⟩
  rintro ⟨i, G, ys⟩ ρ w' ⟨y0, y1, y5, hi, hl, A⟩
  refine sq (sq (rg (r (mv y5) (r (mv y0) (r (ln Try.underlying57 rfl (A.W.R)) (r (bi rfl rfl rfl) (re ?_)))))))
  refine cp rfl (fun h => ?_) (fun h => ?_)
  · rw [hl] at h
    have hi' : i < ys.length := by omega
    refine sk (sq (bl (sq (rg (r (mv y0) (r (mv y5) (r (mv y1) ?_)))))))
    refine ixf (dk := kE) (a := (k + 2 * (i : Int), ys[i].2)) Try.underlying57 ti70 Try.underlying70 rfl rfl rfl ti2 rfl rfl A.W A.nd rfl hi' (fun _ _ => rfl) rfl rfl (one_all rfl) (by decide) (fun _ _ _ h => entry_set0 h) ?_
    intro _ _ w1 s1 W1 c1
    have M1 := A.tr ⟨W1, A.nd, fun j hj => .inl hj, c1.mono (fun j hj _ => W_own A.W j hj)⟩
    have hi2 : i < (ys.set i (k + 2 * (i : Int), ys[i].2)).length := by simpa using hi'
    refine re (sq (rg (r (mv y1) (r (ad (k + 2 * (i : Int) + 1) rfl rfl (by omega)) (r (sa rfl) (re (sq (rg (r (mv y0) (r (mv y5) (r (mv rfl) (r (rm ((k + 2 * (i : Int) + 1).tmod 3) rfl rfl ⟨by omega, rfl⟩) (r (bi rfl rfl rfl) ?_)))))))))))))
    refine ixf (dk := kE) (a := ((ys.set i (k + 2 * (i : Int), ys[i].2))[i].1, decide ((k + 2 * (i : Int) + 1).tmod 3 = 0))) Try.underlying57 ti70 Try.underlying70 rfl rfl rfl ti4 rfl rfl M1.W M1.nd rfl hi2 (fun _ _ => rfl) rfl rfl (one_all rfl) (by decide) (fun _ _ _ h => entry_set1 h) ?_
    intro _ _ w2 s2 W2 c2
    have M2 := M1.tr ⟨W2, M1.nd, fun j hj => .inl hj, c2.mono (fun j hj _ => W_own M1.W j hj)⟩
    refine re (rg (r (mv rfl) (r (ad (k + 2 * ((i + 1 : Nat) : Int)) rfl rfl (by omega)) (r (sa rfl) (re (be (rg (r (mv y5) (r (ad (((i + 1 : Nat) : Int)) rfl rfl (by omega)) (r (sa rfl) (re ?_)))))))))))
    refine ag (i + 1, G, _) ⟨y0, rfl, rfl, by omega, by simp [hl], M2⟩ (by dsimp only; omega)
  · rw [hl] at h
    obtain rfl : i = xs.length := by omega
    refine ex rfl (sq (rg (r (mv y1) (r (sa rfl) (re (rt ?_))))))
    exact fin1 (v := .int .i64 (k + 2 * xs.length)) Try.results49 rfl ⟨rfl, G, ys, A⟩
end Go.Proofs.Ytgpcanjmgdmdhaa
