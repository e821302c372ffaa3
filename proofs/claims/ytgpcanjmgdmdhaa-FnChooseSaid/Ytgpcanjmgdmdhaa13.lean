/-
  CONTRACTS 13: disks as arguments: sizes, copies; ValidDisk. No condition.
-/
import Derived.Test.Ytgpcanjmgdmdhaa12
namespace Go.Proofs.Ytgpcanjmgdmdhaa
open Go Go.Eng
set_option maxRecDepth 100000
set_option maxHeartbeats 4000000
set_option linter.unusedVariables false
theorem toWrite {w : World} {a : Int} {F : List Nat} {v : Value} {xs : List Int} (hx : u8.R w F v xs) (lx : xs.length ≤ 1000000000) :
    Ret Try.prog 148 #[.agg #[.int .i64 a, v]] w (fun r w' => ∃ v2 F2, r = .agg #[.int .i64 a, v2] ∧ u8.W 5 w' F2 v2 xs ∧ F2.Nodup ∧ (∀ k, k ∈ F2 → w.heap.size ≤ k) ∧ Ch [] w w') := by
  refine enter Try.func148 rfl Try.ntmps148 (by rfl) (by rfl) ?_
  refine sq (rg (bx rfl ?_))
  intro g1 wg1 eg1 sg1 bg1 cg1
  have qg1 := le_new (Ch.refl [] w).size eg1
  have hcg1 : Ch [] w wg1 := (Ch.refl [] w).t cg1
  replace bg1 : B wg1 g1 174 ([.int .i64 a, v]) := bg1
  refine al ti112 ?_
  intro g2 wg2 eg2 sg2 bg2 cg2
  have ng1_g2 := ne_new bg1.lt eg2
  have qg2 := le_new hcg1.size eg2
  replace bg1 := cg2.b0 bg1
  have hcg2 : Ch [] w wg2 := hcg1.t cg2
  replace bg2 : B wg2 g2 112 ([.int .i64 0, .slice none 0 0]) := bg2
  refine re (sq (rg (al ti112 ?_)))
  intro g3 wg3 eg3 sg3 bg3 cg3
  have ng1_g3 := ne_new bg1.lt eg3
  have ng2_g3 := ne_new bg2.lt eg3
  have qg3 := le_new hcg2.size eg3
  replace bg1 := cg3.b0 bg1
  replace bg2 := cg3.b0 bg2
  have hcg3 : Ch [] w wg3 := hcg2.t cg3
  replace bg3 : B wg3 g3 112 ([.int .i64 0, .slice none 0 0]) := bg3
  refine re (sq (rg (r (fa Try.underlying174 rfl ti2 rfl rfl) (r (ldb Try.underlying2 rfl rfl bg1 rfl) (r (fa Try.underlying112 rfl ti2 rfl rfl) (st ti2 rfl rfl bg3 rfl (Nat.le_of_ble_eq_true rfl) (one_all rfl) ?_))))))
  intro wS3g3 sS3g3 bg3 cS3g3
  replace bg1 := cS3g3.b bg1 (nin1 ng1_g3)
  replace bg2 := cS3g3.b bg2 (nin1 ng2_g3)
  have hcS3g3 : Ch [] w wS3g3 := hcg3.own cS3g3 qg3
  replace bg3 : B wS3g3 g3 112 ([.int .i64 a, .slice none 0 0]) := bg3
  refine re (sq (rg (r (fa Try.underlying174 rfl ti40 rfl rfl) (r (ldb Try.underlying40 rfl rfl bg1 rfl) (cl go61 (toByteS (hx.t hcS3g3) lx) (ac rfl an) ?_)))))
  rintro r2 wt ⟨⟨F2, W2, n2, f2⟩, ct⟩
  have d2_g1 := old_d f2 bg1.lt
  have d2_g2 := old_d f2 bg2.lt
  have d2_g3 := old_d f2 bg3.lt
  replace f2 := low_t hcS3g3 f2
  replace bg1 := ct.b0 bg1
  replace bg2 := ct.b0 bg2
  replace bg3 := ct.b0 bg3
  have hct : Ch [] w wt := hcS3g3.t ct
  refine r (fa Try.underlying112 rfl ti40 rfl rfl) (st' ti40 rfl rfl (cel1 (W2.R).oneCell) bg3 rfl (Nat.le_of_ble_eq_true rfl) (ones1 (W2.R).oneCell) ?_)
  intro wS4g3 sS4g3 bg3 cS4g3
  replace bg1 := cS4g3.b bg1 (nin1 ng1_g3)
  replace bg2 := cS4g3.b bg2 (nin1 ng2_g3)
  replace W2 := W2.tt cS4g3 d2_g3
  have hcS4g3 : Ch [] w wS4g3 := hct.own cS4g3 qg3
  replace bg3 : B wS4g3 g3 112 ([.int .i64 a, r2]) := bg3
  refine re (sq ?_)
  refine gen (fun ρ => ρ 2 = .pointer (some ⟨g2, 0, none⟩) ∧ ρ 3 = .pointer (some ⟨g3, 0, none⟩) ∧ True) ⟨rfl, rfl, trivial⟩ ?_
  rintro ρ ⟨z2, z3, -⟩
  refine rg (r (lab [.int .i64 a, r2] Try.underlying112 rfl ti112 z3 bg3 rfl rfl) (st ti112 z2 rfl bg2 rfl (Nat.le_of_ble_eq_true rfl) (oc rfl (oc (W2.R).oneCell on)) ?_))
  intro wS1g2 sS1g2 bg2 cS1g2
  replace bg1 := cS1g2.b bg1 (nin1 ng1_g2)
  replace bg3 := cS1g2.b bg3 (nin1 ng2_g3.symm)
  replace W2 := W2.tt cS1g2 d2_g2
  have hcS1g2 : Ch [] w wS1g2 := hcS4g3.own cS1g2 qg2
  replace bg2 : B wS1g2 g2 112 ([.int .i64 a, r2]) := bg2
  refine re (rt ?_)
  exact finc  (cs := [.int .i64 a, r2]) Try.results148 Try.underlying112 rfl ti112 z2 bg2 rfl  ⟨_, F2, rfl, W2, n2, f2, hcS1g2⟩
theorem toWriteS {w : World} {F : List Nat} {v : Value} {xs : List (Int × List Int)} (hx : kW.R w F v xs) (lx : xs.length ≤ 1000000000) (lxx : ∀ x, x ∈ xs → x.2.length ≤ 1000000000) :
    Ret Try.prog 116 #[v] w (fun r w' => New kW 112 w w' r xs ∧ Ch [] w w') := by
  refine enter Try.func116 rfl Try.ntmps116 (by rfl) (by rfl) ?_
  refine sq (rg (r (sa rfl) (re (sq (rg (r (mv rfl) (r (ln Try.underlying72 rfl ((hx.t (Ch.refl [] w)))) (mk (dk := kW) (m := xs.length) (0, []) Try.underlying47 ti112 (fun _ => ⟨[], [], [_], [_], rfl, rfl, ⟨rfl, rfl⟩, _, rfl, Kd.nil_W _ _ _⟩) rfl rfl (by omega) ?_))))))))
  intro v1 w1 F1 W1 n1 f1 c1
  replace f1 := low_t (Ch.refl [] w) f1
  have hc1 : Ch [] w w1 := (Ch.refl [] w).t c1
  refine r (sa rfl) (re (sq (sq (rg (r (sa rfl) (re (bl ?_)))))))
  refine lp (α := Nat × List Nat) (fun (k, F1) ρ w' => ρ 0 = v ∧ ρ 3 = v1 ∧ ρ 4 = .int .i64 (k : Int) ∧ Ch [] w w' ∧ Kd.W kW 112 w' F1 v1 (xs.take k ++ List.replicate (xs.length - k) (0, [])) ∧ F1.Nodup ∧ (∀ k, k ∈ F1 → w.heap.size ≤ k) ∧ k ≤ xs.length) (fun (k, F1) => xs.length - k) (0, F1) ?_ ?_
  · exact ⟨rfl, rfl, rfl, hc1, W1, n1, f1, by omega⟩
  rintro ⟨k, F1⟩ ρ w' ⟨y0, y3, y4, hc, W1, n1, f1, hk⟩
  refine sq (sq (rg (r (mv y4) (r (mv y0) (r (ln Try.underlying72 rfl ((hx.t hc))) (r (bi rfl rfl rfl) (re ?_)))))))
  refine cp rfl (fun h => ?_) (fun h => ?_)
  · have hk' : k < xs.length := by omega
    refine sk (sq (bl (rg (r (mv y3) (r (mv y4) (r (mv y0) (r (mv y4) ?_)))))))
    obtain ⟨c18, ad18, k18, e18, p18⟩ := (hx).place k (by omega)
    obtain ⟨vd18, Fd18, Rd18, sd18, q18⟩ := wr_at p18
    refine r (ix Try.underlying72 ti174 e18 rfl (by omega)) (r (la [.int .i64 ((xs[k]).1), vd18] Try.underlying174 rfl ti174 rfl rfl (fun m u h => Ch.cell hc (q18 m u h))) (cl go148 (toWrite (a := xs[k].1) (Rd18.t hc) (lxx _ (List.getElem_mem hk'))) (ac rfl an) ?_))
    rintro _ wt ⟨v2, F2, rfl, W2, n2, f2, ct⟩
    have x1_2 := x_new W1.lt f2
    replace f2 := low_t hc f2
    replace W1 := W1.t ct
    have hct : Ch [] w wt := hc.t ct
    refine ixs (a := (xs[k].1, xs[k].2)) (j := k) (G := F2) Try.underlying47 ti112 rfl W1 rfl (by simp; omega) (fun _ => rfl) ⟨[], F2, [_], [_], rfl, rfl, ⟨rfl, rfl⟩, _, rfl, W2⟩ (nodup_two n1 n2 x1_2) ?_
    intro _ w21 G21 s21 A21
    have hA21 := A21.hc W1 hct f1
    replace f1 := A21.low2 hct f1 f2
    replace n1 := A21.nd
    replace W1 := A21.W
    clear W2 f2 n2
    refine re (be ?_)
    refine gen (fun ρ => ρ 0 = v ∧ ρ 3 = v1 ∧ ρ 4 = .int .i64 (k : Int) ∧ True) ⟨y0, y3, y4, trivial⟩ ?_
    rintro ρ ⟨z0, z3, z4, -⟩
    refine rg (r (mv z4) (r (ad ((k : Int) + 1) rfl rfl (by omega)) (r (sa rfl) (re ?_))))
    rw [set_rep' xs (0, []) k hk' _ rfl] at W1
    exact ag (k + 1, G21) ⟨z0, z3, rfl, hA21, W1, n1, f1, by omega⟩ (by first | omega | (dsimp only; omega))
  · obtain rfl : k = xs.length := by omega
    rw [List.take_length, Nat.sub_self, List.replicate_zero, List.append_nil] at W1
    refine ex rfl (sq (rg (r (mv y3) (r (sa rfl) (re (rt ?_))))))
    exact fin1 (v := v1) Try.results116 rfl ⟨⟨F1, W1, n1, f1⟩, hc⟩
theorem toDisk {w : World} {F G : List Nat} {v u : Value} {xs : List Int} {ps : List (Int × List Int)} (hx : u8.R w F v xs) (hp : kW.R w G u ps) (lx : xs.length ≤ 1000000000) (lp : ps.length ≤ 1000000000) (lxx : ∀ x, x ∈ ps → x.2.length ≤ 1000000000) :
    Ret Try.prog 58 #[.agg #[v, u]] w (fun r w' => NewD w w' r (xs, ps) ∧ Ch [] w w') := by
  refine enter Try.func58 rfl Try.ntmps58 (by rfl) (by rfl) ?_
  refine sq (rg (bx rfl ?_))
  intro g1 wg1 eg1 sg1 bg1 cg1
  have qg1 := le_new (Ch.refl [] w).size eg1
  have hcg1 : Ch [] w wg1 := (Ch.refl [] w).t cg1
  replace bg1 : B wg1 g1 74 ([v, u]) := bg1
  refine al ti49 ?_
  intro g2 wg2 eg2 sg2 bg2 cg2
  have ng1_g2 := ne_new bg1.lt eg2
  have qg2 := le_new hcg1.size eg2
  replace bg1 := cg2.b0 bg1
  have hcg2 : Ch [] w wg2 := hcg1.t cg2
  replace bg2 : B wg2 g2 49 ([.slice none 0 0, .slice none 0 0]) := bg2
  refine re (sq (rg (al ti49 ?_)))
  intro g3 wg3 eg3 sg3 bg3 cg3
  have ng1_g3 := ne_new bg1.lt eg3
  have ng2_g3 := ne_new bg2.lt eg3
  have qg3 := le_new hcg2.size eg3
  replace bg1 := cg3.b0 bg1
  replace bg2 := cg3.b0 bg2
  have hcg3 : Ch [] w wg3 := hcg2.t cg3
  replace bg3 : B wg3 g3 49 ([.slice none 0 0, .slice none 0 0]) := bg3
  refine re (sq (rg (r (fa Try.underlying74 rfl ti40 rfl rfl) (r (ldb Try.underlying40 rfl rfl bg1 rfl) (cl go61 (toByteS (hx.t hcg3) lx) (ac rfl an) ?_)))))
  rintro r1 wa ⟨⟨F1, W1, n1, f1⟩, ca⟩
  have d1_g1 := old_d f1 bg1.lt
  have d1_g2 := old_d f1 bg2.lt
  have d1_g3 := old_d f1 bg3.lt
  replace f1 := low_t hcg3 f1
  replace bg1 := ca.b0 bg1
  replace bg2 := ca.b0 bg2
  replace bg3 := ca.b0 bg3
  have hca : Ch [] w wa := hcg3.t ca
  refine r (fa Try.underlying49 rfl ti40 rfl rfl) (st' ti40 rfl rfl (cel1 (W1.R).oneCell) bg3 rfl (Nat.le_of_ble_eq_true rfl) (ones1 (W1.R).oneCell) ?_)
  intro wS4g3 sS4g3 bg3 cS4g3
  replace bg1 := cS4g3.b bg1 (nin1 ng1_g3)
  replace bg2 := cS4g3.b bg2 (nin1 ng2_g3)
  replace W1 := W1.tt cS4g3 d1_g3
  have hcS4g3 : Ch [] w wS4g3 := hca.own cS4g3 qg3
  replace bg3 : B wS4g3 g3 49 ([r1, .slice none 0 0]) := bg3
  refine re (sq (rg (r (fa Try.underlying74 rfl ti72 rfl rfl) (r (ldb Try.underlying72 rfl rfl bg1 rfl) (cl go116 (toWriteS (hp.t hcS4g3) lp lxx) (ac rfl an) ?_)))))
  rintro r2 wb ⟨⟨F2, W2, n2, f2⟩, cb⟩
  have d2_g1 := old_d f2 bg1.lt
  have d2_g2 := old_d f2 bg2.lt
  have d2_g3 := old_d f2 bg3.lt
  have x1_2 := x_new W1.lt f2
  replace f2 := low_t hcS4g3 f2
  replace bg1 := cb.b0 bg1
  replace bg2 := cb.b0 bg2
  replace bg3 := cb.b0 bg3
  replace W1 := W1.t cb
  have hcb : Ch [] w wb := hcS4g3.t cb
  refine r (fa Try.underlying49 rfl ti47 rfl rfl) (st' ti47 rfl rfl (cel1 (W2.R).oneCell) bg3 rfl (Nat.le_of_ble_eq_true rfl) (ones1 (W2.R).oneCell) ?_)
  intro wS4g3 sS4g3 bg3 cS4g3
  replace bg1 := cS4g3.b bg1 (nin1 ng1_g3)
  replace bg2 := cS4g3.b bg2 (nin1 ng2_g3)
  replace W1 := W1.tt cS4g3 d1_g3
  replace W2 := W2.tt cS4g3 d2_g3
  have hcS4g3 : Ch [] w wS4g3 := hcb.own cS4g3 qg3
  replace bg3 : B wS4g3 g3 49 ([r1, r2]) := bg3
  refine re (sq ?_)
  refine gen (fun ρ => ρ 2 = .pointer (some ⟨g2, 0, none⟩) ∧ ρ 3 = .pointer (some ⟨g3, 0, none⟩) ∧ True) ⟨rfl, rfl, trivial⟩ ?_
  rintro ρ ⟨z2, z3, -⟩
  refine rg (r (lab [r1, r2] Try.underlying49 rfl ti49 z3 bg3 rfl rfl) (st ti49 z2 rfl bg2 rfl (Nat.le_of_ble_eq_true rfl) (oc (W1.R).oneCell (oc (W2.R).oneCell on)) ?_))
  intro wS1g2 sS1g2 bg2 cS1g2
  replace bg1 := cS1g2.b bg1 (nin1 ng1_g2)
  replace bg3 := cS1g2.b bg3 (nin1 ng2_g3.symm)
  replace W1 := W1.tt cS1g2 d1_g2
  replace W2 := W2.tt cS1g2 d2_g2
  have hcS1g2 : Ch [] w wS1g2 := hcS4g3.own cS1g2 qg2
  replace bg2 : B wS1g2 g2 49 ([r1, r2]) := bg2
  refine re (rt ?_)
  exact finc  (cs := [r1, r2]) Try.results58 Try.underlying49 rfl ti49 z2 bg2 rfl  ⟨⟨_, _, F1, F2, rfl, W1, W2, n1, n2, x1_2, f1, f2⟩, hcS1g2⟩
/-- A count that is left, or -1. -/
def lft (m : Int) (n : Nat) : Int := if m < n then -1 else m - n
theorem szByteS {w : World} {F : List Nat} {v : Value} {xs : List Int} {m : Int} (hx : u8.R w F v xs) (lx : xs.length ≤ 9223372036854775807) (hm : 0 ≤ m ∧ m ≤ 1048576) :
    Ret Try.prog 113 #[v, .int .i64 m] w (fun r w' => r = .int .i64 (lft m xs.length) ∧ Ch [] w w') := by
  refine enter Try.func113 rfl Try.ntmps113 (by rfl) (by rfl) ?_
  refine sq (rg (r (sa rfl) (re (sq (rg (r (mv rfl) (r (mv rfl) (r (ln Try.underlying40 rfl ((hx.t (Ch.refl [] w)))) (r (sb (m - (xs.length : Int)) rfl rfl (by omega)) (r (sa rfl) (re (sq (sq (rg (r (mv rfl) (r (bi rfl rfl rfl) (re ?_)))))))))))))))))
  refine cp rfl (fun h => ?_) (fun h => ?_)
  · refine sq (rg (r (sa rfl) (re (rt ?_))))
    exact fin1 (v := .int .i64 (-1)) Try.results113 rfl ⟨by rw [lft, if_pos (by omega)], (Ch.refl [] w)⟩
  · refine sk (sq (rg (r (mv rfl) (r (sa rfl) (re (rt ?_))))))
    exact fin1 (v := .int .i64 (m - (xs.length : Int))) Try.results113 rfl ⟨by rw [lft, if_neg (by omega)], (Ch.refl [] w)⟩
theorem szWrite {w : World} {a : Int} {F : List Nat} {v : Value} {xs : List Int} {m : Int} (hx : u8.R w F v xs) (lx : xs.length ≤ 9223372036854775807) (hm : 0 ≤ m ∧ m ≤ 1048576) :
    Ret Try.prog 147 #[.agg #[.int .i64 a, v], .int .i64 m] w (fun r w' => r = .int .i64 (lft m xs.length) ∧ Ch [] w w') := by
  refine enter Try.func147 rfl Try.ntmps147 (by rfl) (by rfl) ?_
  refine sq (rg (bx rfl ?_))
  intro g2 wg2 eg2 sg2 bg2 cg2
  have qg2 := le_new (Ch.refl [] w).size eg2
  have hcg2 : Ch [] w wg2 := (Ch.refl [] w).t cg2
  replace bg2 : B wg2 g2 174 ([.int .i64 a, v]) := bg2
  refine r (sa rfl) (re (sq (rg (r (fa Try.underlying174 rfl ti40 rfl rfl) (r (ldb Try.underlying40 rfl rfl bg2 rfl) (r (mv rfl) (cl go113 (szByteS (hx.t hcg2) lx hm) (ac rfl (ac rfl an)) ?_)))))))
  rintro r wa ⟨rfl, ca⟩
  replace bg2 := ca.b0 bg2
  have hca : Ch [] w wa := hcg2.t ca
  refine r (sa rfl) (re (sq (sq (rg (r (mv rfl) (r (bi rfl rfl rfl) (re ?_)))))))
  refine cp rfl (fun h => ?_) (fun h => ?_)
  · have e : lft m xs.length = -1 := by unfold lft at h ⊢; split at h <;> simp_all <;> omega
    refine sq (rg (r (sa rfl) (re (rt ?_))))
    exact fin1 (v := .int .i64 (-1)) Try.results147 rfl ⟨by rw [e], hca⟩
  · refine sk (sq (rg (r (mv rfl) (r (sa rfl) (re (rt ?_))))))
    exact fin1 (v := .int .i64 (lft m xs.length)) Try.results147 rfl ⟨rfl, hca⟩
/-- What writes ask for, all told. -/
def askW : List (Int × List Int) → Nat
  | [] => 0
  | x :: xs => x.2.length + askW xs
theorem askW_take {xs : List (Int × List Int)} {k : Nat} (hk : k < xs.length) : askW (xs.take (k + 1)) = askW (xs.take k) + xs[k].2.length := by
  induction xs generalizing k with
  | nil => simp at hk
  | cons x xs ih =>
    cases k with
    | zero => simp [askW]
    | succ k => simp only [List.take_succ_cons, askW, List.getElem_cons_succ]; rw [ih (by simpa using hk)]; omega
theorem askW_le {xs : List (Int × List Int)} (k : Nat) : askW (xs.take k) ≤ askW xs := by
  induction xs generalizing k with
  | nil => simp [askW]
  | cons x xs ih =>
    cases k with
    | zero => simp [askW]
    | succ k => simp only [List.take_succ_cons, askW]; have := ih k; omega
theorem askW_mem {xs : List (Int × List Int)} : ∀ x, x ∈ xs → x.2.length ≤ askW xs := by
  induction xs with
  | nil => simp
  | cons x xs ih =>
    intro y hy
    simp only [askW]
    rcases List.mem_cons.1 hy with rfl | hy
    · omega
    · have := ih y hy; omega
theorem szW_ask (xs : List (Int × List Int)) : szW xs = xs.length + askW xs := by
  induction xs with
  | nil => rfl
  | cons x xs ih => simp only [szW, askW, List.length_cons, ih]; omega
theorem szWriteS {w : World} {F : List Nat} {v : Value} {xs : List (Int × List Int)} {m : Int} (hx : kW.R w F v xs) (lx : xs.length ≤ 9223372036854775807) (lxx : ∀ x, x ∈ xs → x.2.length ≤ 9223372036854775807) (hm : 0 ≤ m ∧ m ≤ 1048576) :
    Ret Try.prog 114 #[v, .int .i64 m] w (fun r w' => r = .int .i64 (lft m (szW xs)) ∧ Ch [] w w') := by
  refine enter Try.func114 rfl Try.ntmps114 (by rfl) (by rfl) ?_
  have hs := szW_ask xs
  refine sq (rg (r (sa rfl) (re (sq (rg (r (mv rfl) (r (mv rfl) (r (ln Try.underlying72 rfl ((hx.t (Ch.refl [] w)))) (r (sb (m - (xs.length : Int)) rfl rfl (by omega)) (r (sa rfl) (re (sq (sq (rg (r (mv rfl) (r (bi rfl rfl rfl) (re ?_)))))))))))))))))
  refine cp rfl (fun h => ?_) (fun h => ?_)
  · refine sq (rg (r (sa rfl) (re (rt ?_))))
    exact fin1 (v := .int .i64 (-1)) Try.results114 rfl ⟨by rw [lft, if_pos (by omega)], (Ch.refl [] w)⟩
  · refine sk (sq (sq (rg (r (sa rfl) (re (bl ?_))))))
    refine lp (α := Nat) (fun k ρ w' => ρ 0 = v ∧ ρ 1 = .int .i64 (m - (xs.length : Int) - (askW (xs.take k) : Int)) ∧ ρ 5 = .int .i64 (k : Int) ∧ Ch [] w w' ∧ (k ≤ xs.length ∧ 0 ≤ m - (xs.length : Int) - (askW (xs.take k) : Int))) (fun k => xs.length - k) 0 ?_ ?_
    · exact ⟨rfl, (show _ = Value.int .i64 (m - (xs.length : Int)) from rfl).trans (by simp [askW]), rfl, (Ch.refl [] w), ⟨by omega, by simp [askW]; omega⟩⟩
    rintro k ρ w' ⟨y0, y1, y5, hc, ⟨hk, h0⟩⟩
    refine sq (sq (rg (r (mv y5) (r (mv y0) (r (ln Try.underlying72 rfl ((hx.t hc))) (r (bi rfl rfl rfl) (re ?_)))))))
    refine cp rfl (fun hlt => ?_) (fun hlt => ?_)
    · have hk' : k < xs.length := by omega
      have hS := askW_take hk'
      have hle := askW_le (xs := xs) (k + 1)
      refine sk (sq (bl (sq (rg (r (mv y0) (r (mv y5) ?_))))))
      obtain ⟨c20, ad20, k20, e20, p20⟩ := (hx).place k (by omega)
      obtain ⟨vd20, Fd20, Rd20, sd20, q20⟩ := wr_at p20
      refine r (ix Try.underlying72 ti174 e20 rfl (by omega)) (r (la [.int .i64 ((xs[k]).1), vd20] Try.underlying174 rfl ti174 rfl rfl (fun m u h => Ch.cell hc (q20 m u h))) (r (mv y1) (cl go147 (szWrite (a := xs[k].1) (Rd20.t hc) (lxx _ (List.getElem_mem hk')) ⟨h0, by omega⟩) (ac rfl (ac rfl an)) ?_)))
      rintro r wa ⟨rfl, ca⟩
      have hca : Ch [] w wa := hc.t ca
      refine r (sa rfl) (re (sq ?_))
      refine gen (fun ρ => ρ 0 = v ∧ ρ 1 = .int .i64 (lft (m - (xs.length : Int) - (askW (xs.take k) : Int)) xs[k].2.length) ∧ ρ 5 = .int .i64 (k : Int) ∧ True) ⟨y0, rfl, y5, trivial⟩ ?_
      rintro ρ ⟨z0, z1, z5, -⟩
      refine rg (r (mv z1) (r (bi rfl rfl rfl) (re ?_)))
      refine cp rfl (fun hn => ?_) (fun hn => ?_)
      · have e1 : m < (szW xs : Int) := by unfold lft at hn; split at hn <;> omega
        refine sq (rg (r (sa rfl) (re (rt ?_))))
        exact fin1 (v := .int .i64 (-1)) Try.results114 rfl ⟨by rw [lft, if_pos e1], hca⟩
      · have e2 : lft (m - (xs.length : Int) - (askW (xs.take k) : Int)) xs[k].2.length = m - (xs.length : Int) - (askW (xs.take (k + 1)) : Int) ∧ 0 ≤ m - (xs.length : Int) - (askW (xs.take (k + 1)) : Int) := by
          unfold lft at hn ⊢
          split at hn
          · omega
          · rename_i g; rw [if_neg g]; omega
        refine sk (be (rg (r (mv z5) (r (ad ((k : Int) + 1) rfl rfl (by omega)) (r (sa rfl) (re ?_))))))
        refine ag (k + 1) ⟨z0, (show _ = Value.int .i64 (lft (m - (xs.length : Int) - (askW (xs.take k) : Int)) xs[k].2.length) from z1).trans (by rw [e2.1]), rfl, hca, ⟨by omega, e2.2⟩⟩ (by omega)
    · obtain rfl : k = xs.length := by omega
      rw [List.take_length] at h0 y1
      refine ex rfl (sq (rg (r (mv y1) (r (sa rfl) (re (rt ?_))))))
      exact fin1 (v := .int .i64 (m - (xs.length : Int) - (askW xs : Int))) Try.results114 rfl ⟨by rw [lft, if_neg (by omega)]; congr 1; omega, hc⟩
theorem szDisk {w : World} {F G : List Nat} {v u : Value} {xs : List Int} {ps : List (Int × List Int)} {m : Int} (hx : u8.R w F v xs) (hp : kW.R w G u ps) (lx : xs.length ≤ 9223372036854775807) (lp : ps.length ≤ 9223372036854775807) (lxx : ∀ x, x ∈ ps → x.2.length ≤ 9223372036854775807) (hm : 0 ≤ m ∧ m ≤ 1048576) :
    Ret Try.prog 56 #[.agg #[v, u], .int .i64 m] w (fun r w' => r = .int .i64 (lft m (xs.length + szW ps)) ∧ Ch [] w w') := by
  refine enter Try.func56 rfl Try.ntmps56 (by rfl) (by rfl) ?_
  refine sq (rg (bx rfl ?_))
  intro g2 wg2 eg2 sg2 bg2 cg2
  have qg2 := le_new (Ch.refl [] w).size eg2
  have hcg2 : Ch [] w wg2 := (Ch.refl [] w).t cg2
  replace bg2 : B wg2 g2 74 ([v, u]) := bg2
  refine r (sa rfl) (re (sq (rg (r (fa Try.underlying74 rfl ti40 rfl rfl) (r (ldb Try.underlying40 rfl rfl bg2 rfl) (r (mv rfl) (cl go113 (szByteS (hx.t hcg2) lx hm) (ac rfl (ac rfl an)) ?_)))))))
  rintro r wa ⟨rfl, ca⟩
  replace bg2 := ca.b0 bg2
  have hca : Ch [] w wa := hcg2.t ca
  refine r (sa rfl) (re (sq (sq (rg (r (mv rfl) (r (bi rfl rfl rfl) (re ?_)))))))
  refine cp rfl (fun h => ?_) (fun h => ?_)
  · have e1 : m < (xs.length : Int) := by unfold lft at h; split at h <;> omega
    refine sq (rg (r (sa rfl) (re (rt ?_))))
    exact fin1 (v := .int .i64 (-1)) Try.results56 rfl ⟨by rw [lft, if_pos (by omega)], hca⟩
  · have e2 : lft m xs.length = m - xs.length ∧ 0 ≤ m - (xs.length : Int) := by
      unfold lft at h ⊢
      split at h
      · omega
      · rename_i g; rw [if_neg g]; omega
    refine sk (sq (rg (r (fa Try.underlying74 rfl ti72 rfl rfl) (r (ldb Try.underlying72 rfl rfl bg2 rfl) (r (mv rfl) (cl go114 (szWriteS (hp.t hca) lp lxx (by omega)) (ac rfl (ac rfl an)) ?_))))))
    rintro r wb ⟨rfl, cb⟩
    replace bg2 := cb.b0 bg2
    have hcb : Ch [] w wb := hca.t cb
    refine r (sa rfl) (re (sq (sq ?_)))
    refine gen (fun ρ => ρ 1 = .int .i64 (lft (lft m xs.length) (szW ps)) ∧ ρ 4 = .int .i64 0 ∧ True) ⟨rfl, rfl, trivial⟩ ?_
    rintro ρ ⟨z1, z4, -⟩
    refine rg (r (mv z1) (r (bi rfl rfl rfl) (re ?_)))
    have e3 : lft (lft m xs.length) (szW ps) = lft m (xs.length + szW ps) := by rw [e2.1]; unfold lft; split <;> split <;> omega
    refine cp rfl (fun h2 => ?_) (fun h2 => ?_)
    · have e4 : lft m (xs.length + szW ps) = -1 := by
        rw [e3] at h2
        unfold lft at h2 ⊢
        split at h2
        · rename_i g; rw [if_pos g]
        · omega
      refine sq (rg (r (sa rfl) (re (rt ?_))))
      exact fin1 (v := .int .i64 (-1)) Try.results56 rfl ⟨by rw [e4], hcb⟩
    · refine sk (sq (rg (r (mv z1) (r (sa rfl) (re (rt ?_))))))
      exact fin1 (v := .int .i64 (lft (lft m xs.length) (szW ps))) Try.results56 rfl ⟨by rw [e3], hcb⟩
/-- A disk's blocks; a write that is good; a disk that is good. -/
def blks (xs : List Int) : Int := (xs.length : Int) / 64
abbrev wok (n : Int) (x : Int × List Int) : Prop := 0 ≤ x.1 ∧ x.1 < n ∧ x.2.length = 64
def vdisk (xs : List Int) (ps : List (Int × List Int)) : Bool := decide ((xs.length : Int) % 64 = 0 ∧ 1 ≤ blks xs ∧ blks xs ≤ 1200 ∧ ps.length ≤ 400) && ps.all (fun x => decide (wok (blks xs) x))
theorem vdisk_head {xs : List Int} {ps : List (Int × List Int)} (h : ¬ ((xs.length : Int) % 64 = 0 ∧ 1 ≤ blks xs ∧ blks xs ≤ 1200 ∧ ps.length ≤ 400)) : vdisk xs ps = false := by rw [vdisk, decide_eq_false h]; rfl
theorem vdisk_bad {xs : List Int} {ps : List (Int × List Int)} {k : Nat} (hk : k < ps.length) (h : ¬ wok (blks xs) ps[k]) : vdisk xs ps = false := by
  rw [vdisk]
  have : ps.all (fun x => decide (wok (blks xs) x)) = false := by
    rw [List.all_eq_false]
    exact ⟨_, List.getElem_mem hk, by simpa using h⟩
  rw [this, Bool.and_false]
theorem vdisk_good {xs : List Int} {ps : List (Int × List Int)} (h : (xs.length : Int) % 64 = 0 ∧ 1 ≤ blks xs ∧ blks xs ≤ 1200 ∧ ps.length ≤ 400) (hw : ∀ x, x ∈ ps → wok (blks xs) x) : vdisk xs ps = true := by
  rw [vdisk, decide_eq_true h, Bool.true_and, List.all_eq_true]
  exact fun x hx => decide_eq_true (hw x hx)
theorem wok_take {n : Int} {ps : List (Int × List Int)} {k : Nat} (hk : k < ps.length) (h : ∀ x, x ∈ ps.take k → wok n x) (h' : wok n ps[k]) : ∀ x, x ∈ ps.take (k + 1) → wok n x := by
  rw [List.take_succ_eq_append_getElem hk]
  intro x hx
  rcases List.mem_append.1 hx with hx | hx
  · exact h x hx
  · rw [List.mem_singleton.1 hx]; exact h'
theorem l1Blocks {w : World} {F : List Nat} {v u : Value} {xs : List Int} (hx : u8.R w F v xs) (lx : xs.length ≤ 1000000000) :
    Ret Try.prog 115 #[.agg #[v, u]] w (fun r w' => r = .int .i64 (blks xs) ∧ Ch [] w w') := by
  refine enter Try.func115 rfl Try.ntmps115 (by rfl) (by rfl) ?_
  refine sq (rg (bx rfl ?_))
  intro g1 wg1 eg1 sg1 bg1 cg1
  have qg1 := le_new (Ch.refl [] w).size eg1
  have hcg1 : Ch [] w wg1 := (Ch.refl [] w).t cg1
  replace bg1 : B wg1 g1 49 ([v, u]) := bg1
  refine r (sa rfl) (re (sq (rg (r (fa Try.underlying49 rfl ti40 rfl rfl) (r (ldb Try.underlying40 rfl rfl bg1 rfl) (r (ln Try.underlying40 rfl ((hx.t hcg1))) (r (dv (blks xs) rfl rfl (by rw [Int.tdiv_eq_ediv_of_nonneg (by omega)]; unfold blks; omega)) (r (sa rfl) (re (rt ?_))))))))))
  exact fin1 (v := .int .i64 (blks xs)) Try.results115 rfl ⟨rfl, hcg1⟩
theorem Disk_blocks {w : World} {F : List Nat} {v u : Value} {xs : List Int} (hx : u8.R w F v xs) (lx : xs.length ≤ 1000000000) :
    Ret Try.prog 117 #[.agg #[v, u]] w (fun r w' => r = .int .i64 (blks xs) ∧ Ch [] w w') := by
  refine enter Try.func117 rfl Try.ntmps117 (by rfl) (by rfl) ?_
  refine sq (rg (bx rfl ?_))
  intro g1 wg1 eg1 sg1 bg1 cg1
  have qg1 := le_new (Ch.refl [] w).size eg1
  have hcg1 : Ch [] w wg1 := (Ch.refl [] w).t cg1
  replace bg1 : B wg1 g1 49 ([v, u]) := bg1
  refine r (sa rfl) (re (sq (rg (r (fa Try.underlying49 rfl ti40 rfl rfl) (r (ldb Try.underlying40 rfl rfl bg1 rfl) (r (ln Try.underlying40 rfl ((hx.t hcg1))) (r (dv (blks xs) rfl rfl (by rw [Int.tdiv_eq_ediv_of_nonneg (by omega)]; unfold blks; omega)) (r (sa rfl) (re (rt ?_))))))))))
  exact fin1 (v := .int .i64 (blks xs)) Try.results117 rfl ⟨rfl, hcg1⟩
theorem spec_ValidDisk {w : World} {F G : List Nat} {v u : Value} {xs : List Int} {ps : List (Int × List Int)} (hx : u8.R w F v xs) (hp : kW.R w G u ps) (lx : xs.length ≤ 1000000000) (hps : ps.length ≤ 1000000000) (lxx : ∀ x, x ∈ ps → x.2.length ≤ 1000000000) :
    Ret Try.prog 57 #[.agg #[v, u]] w (fun r w' => r = .bool (vdisk xs ps) ∧ Ch [] w w') := by
  refine enter Try.func57 rfl Try.ntmps57 (by rfl) (by rfl) ?_
  refine sq (rg (bx rfl ?_))
  intro g1 wg1 eg1 sg1 bg1 cg1
  have qg1 := le_new (Ch.refl [] w).size eg1
  have hcg1 : Ch [] w wg1 := (Ch.refl [] w).t cg1
  replace bg1 : B wg1 g1 49 ([v, u]) := bg1
  refine r (sa rfl) (re (sq (rg (r (lab [v, u] Try.underlying49 rfl ti49 rfl bg1 rfl rfl) (cl go115 (l1Blocks (hx.t hcg1) lx) (ac rfl an) ?_)))))
  rintro r wa ⟨rfl, ca⟩
  replace bg1 := ca.b0 bg1
  have hca : Ch [] w wa := hcg1.t ca
  refine r (sa rfl) (re (sq (sq (rg (r (fa Try.underlying49 rfl ti40 rfl rfl) (r (ldb Try.underlying40 rfl rfl bg1 rfl) (r (ln Try.underlying40 rfl ((hx.t hca))) ?_)))))))
  refine r (rm ((xs.length : Int) % 64) rfl rfl (by rw [Int.tmod_eq_emod_of_nonneg (by omega)]; omega)) (r (bi rfl rfl rfl) (r (mv rfl) ?_))
  refine spn 12 rfl (fun o0 => ?_) (fun o0 => ?_)
  · refine gn rfl rfl rfl (gn rfl rfl rfl (r (pk rfl rfl) (r (mv rfl) (gn rfl rfl rfl (gn rfl rfl rfl (r (pk rfl rfl) (r (mv rfl) (gn rfl rfl rfl (gn rfl rfl rfl (gn rfl rfl rfl (gn rfl rfl rfl (r (pk rfl rfl) (re (ct rfl (sq ?_)))))))))))))))
    refine gen (fun ρ => ρ 1 = .pointer (some ⟨g1, 0, none⟩) ∧ ρ 2 = .bool false ∧ ρ 3 = .int .i64 (blks xs) ∧ True) ⟨rfl, rfl, rfl, trivial⟩ ?_
    rintro ρ ⟨z1, z2, z3, -⟩
    refine rg (r (sa rfl) (re (rt ?_)))
    exact fin1 (v := .bool false) Try.results57 rfl ⟨congrArg Value.bool (vdisk_head (by omega)).symm, hca⟩
  · refine gy rfl rfl rfl (r (mv rfl) (gy rfl rfl rfl (r (bi rfl rfl rfl) (r (pk rfl rfl) (r (mv rfl) ?_)))))
    refine sp 16 rfl (fun o1 => ?_) (fun o1 => ?_)
    · refine gn rfl rfl rfl (gn rfl rfl rfl (r (pk rfl rfl) (r (mv rfl) (gn rfl rfl rfl (gn rfl rfl rfl (gn rfl rfl rfl (gn rfl rfl rfl (r (pk rfl rfl) (re (ct rfl (sq ?_)))))))))))
      refine gen (fun ρ => ρ 1 = .pointer (some ⟨g1, 0, none⟩) ∧ ρ 2 = .bool false ∧ ρ 3 = .int .i64 (blks xs) ∧ True) ⟨rfl, rfl, rfl, trivial⟩ ?_
      rintro ρ ⟨z1, z2, z3, -⟩
      refine rg (r (sa rfl) (re (rt ?_)))
      exact fin1 (v := .bool false) Try.results57 rfl ⟨congrArg Value.bool (vdisk_head (by omega)).symm, hca⟩
    · refine gy rfl rfl rfl (r (mv rfl) (gy rfl rfl rfl (r (bi rfl rfl rfl) (r (pk rfl rfl) (r (mv rfl) ?_)))))
      refine sp 20 rfl (fun o2 => ?_) (fun o2 => ?_)
      · refine gn rfl rfl rfl (gn rfl rfl rfl (gn rfl rfl rfl (gn rfl rfl rfl (r (pk rfl rfl) (re (ct rfl (sq ?_)))))))
        refine gen (fun ρ => ρ 1 = .pointer (some ⟨g1, 0, none⟩) ∧ ρ 2 = .bool false ∧ ρ 3 = .int .i64 (blks xs) ∧ True) ⟨rfl, rfl, rfl, trivial⟩ ?_
        rintro ρ ⟨z1, z2, z3, -⟩
        refine rg (r (sa rfl) (re (rt ?_)))
        exact fin1 (v := .bool false) Try.results57 rfl ⟨congrArg Value.bool (vdisk_head (by omega)).symm, hca⟩
      · refine gy rfl rfl rfl (r (fa Try.underlying49 rfl ti47 rfl rfl) (gy rfl rfl rfl (r (ldb Try.underlying47 rfl rfl bg1 rfl) (gy rfl rfl rfl (r (ln Try.underlying47 rfl ((hp.t hca))) (gy rfl rfl rfl (r (bi rfl rfl rfl) (r (pk rfl rfl) (re ?_)))))))))
        refine cp rfl (fun hl => ?_) (fun hl => ?_)
        · refine sq ?_
          refine gen (fun ρ => ρ 1 = .pointer (some ⟨g1, 0, none⟩) ∧ ρ 2 = .bool false ∧ ρ 3 = .int .i64 (blks xs) ∧ True) ⟨rfl, rfl, rfl, trivial⟩ ?_
          rintro ρ ⟨z1, z2, z3, -⟩
          refine rg (r (sa rfl) (re (rt ?_)))
          exact fin1 (v := .bool false) Try.results57 rfl ⟨congrArg Value.bool (vdisk_head (by omega)).symm, hca⟩
        · refine sk (sq (sq ?_))
          refine gen (fun ρ => ρ 1 = .pointer (some ⟨g1, 0, none⟩) ∧ ρ 2 = .bool false ∧ ρ 3 = .int .i64 (blks xs) ∧ True) ⟨rfl, rfl, rfl, trivial⟩ ?_
          rintro ρ ⟨z1, z2, z3, -⟩
          refine rg (r (sa rfl) (re (bl ?_)))
          refine lp (α := Nat) (fun k ρ w' => ρ 3 = .int .i64 (blks xs) ∧ ρ 1 = .pointer (some ⟨g1, 0, none⟩) ∧ ρ 4 = .int .i64 (k : Int) ∧ B w' g1 49 ([v, u]) ∧ Ch [] w w' ∧ k ≤ ps.length ∧ ∀ x, x ∈ ps.take k → wok (blks xs) x) (fun k => ps.length - k) 0 ?_ ?_
          · exact ⟨z3, z1, rfl, bg1, hca, ⟨by omega, by simp⟩⟩
          rintro k ρ w' ⟨y3, y1, y4, bg1, hc, ⟨hk, hok⟩⟩
          refine sq (sq (rg (r (mv y4) (r (fa Try.underlying49 rfl ti47 rfl y1) (r (ldb Try.underlying47 rfl rfl bg1 rfl) (r (ln Try.underlying47 rfl ((hp.t hc))) (r (bi rfl rfl rfl) (re ?_))))))))
          refine cp rfl (fun hlt => ?_) (fun hlt => ?_)
          · have hk' : k < ps.length := by omega
            have lk := lxx _ (List.getElem_mem hk')
            refine sk (sq (bl (sq (rg (r (fa Try.underlying49 rfl ti47 rfl y1) (r (ldb Try.underlying47 rfl rfl bg1 rfl) (r (mv y4) ?_)))))))
            obtain ⟨c36, ad36, k36, e36, p36⟩ := (hp).place k (by omega)
            obtain ⟨vd36, Fd36, Rd36, sd36, q36⟩ := wr_at p36
            refine r (ix Try.underlying47 ti112 e36 rfl (by omega)) (r (fa' Try.underlying112 rfl ti2 rfl rfl) (r (ld Try.underlying2 rfl rfl (Ch.cell hc (q36 0 _ rfl))) (r (bi rfl rfl rfl) (r (mv rfl) ?_))))
            refine sp 40 rfl (fun b0 => ?_) (fun b0 => ?_)
            · refine gn rfl rfl rfl (gn rfl rfl rfl (gn rfl rfl rfl (gn rfl rfl rfl (gn rfl rfl rfl (gn rfl rfl rfl (gn rfl rfl rfl (gn rfl rfl rfl (r (pk rfl rfl) (r (mv rfl) (gn rfl rfl rfl (gn rfl rfl rfl (gn rfl rfl rfl (gn rfl rfl rfl (gn rfl rfl rfl (gn rfl rfl rfl (gn rfl rfl rfl (gn rfl rfl rfl (r (pk rfl rfl) (re (ct rfl (sq ?_)))))))))))))))))))))
              refine gen (fun ρ => ρ 1 = .pointer (some ⟨g1, 0, none⟩) ∧ ρ 3 = .int .i64 (blks xs) ∧ ρ 4 = .int .i64 (k : Int) ∧ True) ⟨y1, y3, y4, trivial⟩ ?_
              rintro ρ ⟨z1, z3, z4, -⟩
              refine rg (r (sa rfl) (re (rt ?_)))
              exact fin1 (v := .bool false) Try.results57 rfl ⟨congrArg Value.bool (vdisk_bad hk' (fun e => by omega)).symm, hc⟩
            · refine gy rfl rfl rfl (r (fa Try.underlying49 rfl ti47 rfl y1) (gy rfl rfl rfl (r (ldb Try.underlying47 rfl rfl bg1 rfl) (gy rfl rfl rfl (r (mv y4) (gy rfl rfl rfl ?_))))))
              obtain ⟨c44, ad44, k44, e44, p44⟩ := (hp).place k (by omega)
              obtain ⟨vd44, Fd44, Rd44, sd44, q44⟩ := wr_at p44
              refine r (ix Try.underlying47 ti112 e44 rfl (by omega)) (gy rfl rfl rfl (r (fa' Try.underlying112 rfl ti2 rfl rfl) (gy rfl rfl rfl (r (ld Try.underlying2 rfl rfl (Ch.cell hc (q44 0 _ rfl))) (gy rfl rfl rfl (r (mv y3) (gy rfl rfl rfl (r (bi rfl rfl rfl) (r (pk rfl rfl) (r (mv rfl) ?_))))))))))
              refine sp 50 rfl (fun b1 => ?_) (fun b1 => ?_)
              · refine gn rfl rfl rfl (gn rfl rfl rfl (gn rfl rfl rfl (gn rfl rfl rfl (gn rfl rfl rfl (gn rfl rfl rfl (gn rfl rfl rfl (gn rfl rfl rfl (r (pk rfl rfl) (re (ct rfl (sq ?_)))))))))))
                refine gen (fun ρ => ρ 1 = .pointer (some ⟨g1, 0, none⟩) ∧ ρ 3 = .int .i64 (blks xs) ∧ ρ 4 = .int .i64 (k : Int) ∧ True) ⟨y1, y3, y4, trivial⟩ ?_
                rintro ρ ⟨z1, z3, z4, -⟩
                refine rg (r (sa rfl) (re (rt ?_)))
                exact fin1 (v := .bool false) Try.results57 rfl ⟨congrArg Value.bool (vdisk_bad hk' (fun e => by omega)).symm, hc⟩
              · refine gy rfl rfl rfl (r (fa Try.underlying49 rfl ti47 rfl y1) (gy rfl rfl rfl (r (ldb Try.underlying47 rfl rfl bg1 rfl) (gy rfl rfl rfl (r (mv y4) (gy rfl rfl rfl ?_))))))
                obtain ⟨c54, ad54, k54, e54, p54⟩ := (hp).place k (by omega)
                obtain ⟨vd54, Fd54, Rd54, sd54, q54⟩ := wr_at p54
                refine r (ix Try.underlying47 ti112 e54 rfl (by omega)) (gy rfl rfl rfl (r (fa' Try.underlying112 rfl ti40 rfl rfl) (gy rfl rfl rfl (r (ld Try.underlying40 rfl rfl (Ch.cell hc (q54 1 _ rfl))) (gy rfl rfl rfl (r (ln Try.underlying40 rfl ((Rd54.t hc))) (gy rfl rfl rfl (r (bi rfl rfl rfl) (r (pk rfl rfl) (re ?_))))))))))
                refine cpn rfl (fun hb => ?_) (fun hb => ?_)
                · refine sq ?_
                  refine gen (fun ρ => ρ 1 = .pointer (some ⟨g1, 0, none⟩) ∧ ρ 3 = .int .i64 (blks xs) ∧ ρ 4 = .int .i64 (k : Int) ∧ True) ⟨y1, y3, y4, trivial⟩ ?_
                  rintro ρ ⟨z1, z3, z4, -⟩
                  refine rg (r (sa rfl) (re (rt ?_)))
                  exact fin1 (v := .bool false) Try.results57 rfl ⟨congrArg Value.bool (vdisk_bad hk' (fun e => by omega)).symm, hc⟩
                · have hok' := wok_take hk' hok ⟨by omega, by omega, by omega⟩
                  refine sk (be ?_)
                  refine gen (fun ρ => ρ 1 = .pointer (some ⟨g1, 0, none⟩) ∧ ρ 3 = .int .i64 (blks xs) ∧ ρ 4 = .int .i64 (k : Int) ∧ True) ⟨y1, y3, y4, trivial⟩ ?_
                  rintro ρ ⟨z1, z3, z4, -⟩
                  refine rg (r (mv z4) (r (ad ((k : Int) + 1) rfl rfl (by omega)) (r (sa rfl) (re ?_))))
                  exact ag (k + 1) ⟨z3, z1, rfl, bg1, hc, ⟨by omega, hok'⟩⟩ (by first | omega | (dsimp only; omega))
          · obtain rfl : k = ps.length := by omega
            rw [List.take_length] at hok
            refine ex rfl (sq (rg (r (sa rfl) (re (rt ?_)))))
            exact fin1 (v := .bool true) Try.results57 rfl ⟨congrArg Value.bool (vdisk_good ⟨by omega, by omega, by omega, by omega⟩ hok).symm, hc⟩
theorem impl_ValidDisk {w : World} {F G : List Nat} {v u : Value} {xs : List Int} {ps : List (Int × List Int)} (hx : u8.R w F v xs) (hp : kW.R w G u ps) (lx : xs.length ≤ 1000000000) (hps : ps.length ≤ 1000000000) (lxx : ∀ x, x ∈ ps → x.2.length ≤ 1000000000) :
    Ret Try.prog 59 #[.agg #[v, u]] w (fun r w' => r = .bool (vdisk xs ps) ∧ Ch [] w w') := by
  refine enter Try.func59 rfl Try.ntmps59 (by rfl) (by rfl) ?_
  refine sq (rg (bx rfl ?_))
  intro g1 wg1 eg1 sg1 bg1 cg1
  have qg1 := le_new (Ch.refl [] w).size eg1
  have hcg1 : Ch [] w wg1 := (Ch.refl [] w).t cg1
  replace bg1 : B wg1 g1 49 ([v, u]) := bg1
  refine r (sa rfl) (re (sq (rg (r (lab [v, u] Try.underlying49 rfl ti49 rfl bg1 rfl rfl) (cl go117 (Disk_blocks (hx.t hcg1) lx) (ac rfl an) ?_)))))
  rintro r wa ⟨rfl, ca⟩
  replace bg1 := ca.b0 bg1
  have hca : Ch [] w wa := hcg1.t ca
  refine r (sa rfl) (re (sq (sq (rg (r (fa Try.underlying49 rfl ti40 rfl rfl) (r (ldb Try.underlying40 rfl rfl bg1 rfl) (r (ln Try.underlying40 rfl ((hx.t hca))) ?_)))))))
  refine r (rm ((xs.length : Int) % 64) rfl rfl (by rw [Int.tmod_eq_emod_of_nonneg (by omega)]; omega)) (r (bi rfl rfl rfl) (r (mv rfl) ?_))
  refine spn 13 rfl (fun o0 => ?_) (fun o0 => ?_)
  · refine gn rfl rfl rfl (gn rfl rfl rfl (r (pk rfl rfl) (r (mv rfl) (gn rfl rfl rfl (gn rfl rfl rfl (r (pk rfl rfl) (r (mv rfl) (gn rfl rfl rfl (gn rfl rfl rfl (gn rfl rfl rfl (gn rfl rfl rfl (r (pk rfl rfl) (re (ct rfl (sq ?_)))))))))))))))
    refine gen (fun ρ => ρ 1 = .pointer (some ⟨g1, 0, none⟩) ∧ ρ 2 = .bool false ∧ ρ 3 = .int .i64 (blks xs) ∧ True) ⟨rfl, rfl, rfl, trivial⟩ ?_
    rintro ρ ⟨z1, z2, z3, -⟩
    refine rg (r (sa rfl) (re (rt ?_)))
    exact fin1 (v := .bool false) Try.results59 rfl ⟨congrArg Value.bool (vdisk_head (by omega)).symm, hca⟩
  · refine gy rfl rfl rfl (r (mv rfl) (gy rfl rfl rfl (r (bi rfl rfl rfl) (r (pk rfl rfl) (r (mv rfl) ?_)))))
    refine sp 17 rfl (fun o1 => ?_) (fun o1 => ?_)
    · refine gn rfl rfl rfl (gn rfl rfl rfl (r (pk rfl rfl) (r (mv rfl) (gn rfl rfl rfl (gn rfl rfl rfl (gn rfl rfl rfl (gn rfl rfl rfl (r (pk rfl rfl) (re (ct rfl (sq ?_)))))))))))
      refine gen (fun ρ => ρ 1 = .pointer (some ⟨g1, 0, none⟩) ∧ ρ 2 = .bool false ∧ ρ 3 = .int .i64 (blks xs) ∧ True) ⟨rfl, rfl, rfl, trivial⟩ ?_
      rintro ρ ⟨z1, z2, z3, -⟩
      refine rg (r (sa rfl) (re (rt ?_)))
      exact fin1 (v := .bool false) Try.results59 rfl ⟨congrArg Value.bool (vdisk_head (by omega)).symm, hca⟩
    · refine gy rfl rfl rfl (r (mv rfl) (gy rfl rfl rfl (r (bi rfl rfl rfl) (r (pk rfl rfl) (r (mv rfl) ?_)))))
      refine sp 21 rfl (fun o2 => ?_) (fun o2 => ?_)
      · refine gn rfl rfl rfl (gn rfl rfl rfl (gn rfl rfl rfl (gn rfl rfl rfl (r (pk rfl rfl) (re (ct rfl (sq ?_)))))))
        refine gen (fun ρ => ρ 1 = .pointer (some ⟨g1, 0, none⟩) ∧ ρ 2 = .bool false ∧ ρ 3 = .int .i64 (blks xs) ∧ True) ⟨rfl, rfl, rfl, trivial⟩ ?_
        rintro ρ ⟨z1, z2, z3, -⟩
        refine rg (r (sa rfl) (re (rt ?_)))
        exact fin1 (v := .bool false) Try.results59 rfl ⟨congrArg Value.bool (vdisk_head (by omega)).symm, hca⟩
      · refine gy rfl rfl rfl (r (fa Try.underlying49 rfl ti47 rfl rfl) (gy rfl rfl rfl (r (ldb Try.underlying47 rfl rfl bg1 rfl) (gy rfl rfl rfl (r (ln Try.underlying47 rfl ((hp.t hca))) (gy rfl rfl rfl (r (bi rfl rfl rfl) (r (pk rfl rfl) (re ?_)))))))))
        refine cp rfl (fun hl => ?_) (fun hl => ?_)
        · refine sq ?_
          refine gen (fun ρ => ρ 1 = .pointer (some ⟨g1, 0, none⟩) ∧ ρ 2 = .bool false ∧ ρ 3 = .int .i64 (blks xs) ∧ True) ⟨rfl, rfl, rfl, trivial⟩ ?_
          rintro ρ ⟨z1, z2, z3, -⟩
          refine rg (r (sa rfl) (re (rt ?_)))
          exact fin1 (v := .bool false) Try.results59 rfl ⟨congrArg Value.bool (vdisk_head (by omega)).symm, hca⟩
        · refine sk (sq (sq ?_))
          refine gen (fun ρ => ρ 1 = .pointer (some ⟨g1, 0, none⟩) ∧ ρ 2 = .bool false ∧ ρ 3 = .int .i64 (blks xs) ∧ True) ⟨rfl, rfl, rfl, trivial⟩ ?_
          rintro ρ ⟨z1, z2, z3, -⟩
          refine rg (r (fa Try.underlying49 rfl ti47 rfl z1) (r (ldb Try.underlying47 rfl rfl bg1 rfl) (r (ln Try.underlying47 rfl ((hp.t hca))) (r (mv rfl) (re (bl ?_))))))
          refine lp (α := Nat) (fun k ρ w' => ρ 3 = .int .i64 (blks xs) ∧ ρ 28 = u ∧ ρ 29 = .int .i64 (ps.length : Int) ∧ ρ 30 = .int .i64 (k : Int) ∧ Ch [] w w' ∧ k ≤ ps.length ∧ ∀ x, x ∈ ps.take k → wok (blks xs) x) (fun k => ps.length - k) 0 ?_ ?_
          · exact ⟨z3, rfl, rfl, rfl, hca, ⟨by omega, by simp⟩⟩
          rintro k ρ w' ⟨y3, y28, y29, y30, hc, ⟨hk, hok⟩⟩
          refine sq (rg (r (bi y30 y29 rfl) (re (sq ?_))))
          refine cp rfl (fun hlt => ?_) (fun hlt => ?_)
          · have hk' : k < ps.length := by omega
            have lk := lxx _ (List.getElem_mem hk')
            refine sk (sq (bl (sq (rg ?_))))
            obtain ⟨c32, ad32, k32, e32, p32⟩ := (hp).place k (by omega)
            obtain ⟨vd32, Fd32, Rd32, sd32, q32⟩ := wr_at p32
            refine r (ix Try.underlying47 ti112 (y28.trans e32) y30 (by omega)) (r (la [.int .i64 ((ps[k]).1), vd32] Try.underlying112 rfl ti112 rfl rfl (fun m u h => Ch.cell hc (q32 m u h))) (al ti112 ?_))
            intro g5 wg5 eg5 sg5 bg5 cg5
            have qg5 := le_new hc.size eg5
            have hcg5 : Ch [] w wg5 := hc.t cg5
            replace bg5 : B wg5 g5 112 ([.int .i64 0, .slice none 0 0]) := bg5
            refine st ti112 rfl rfl bg5 rfl (Nat.le_of_ble_eq_true rfl) (oc rfl (oc ((Rd32.t hcg5)).oneCell on)) ?_
            intro wS3g5 sS3g5 bg5 cS3g5
            have hcS3g5 : Ch [] w wS3g5 := hcg5.own cS3g5 qg5
            replace bg5 : B wS3g5 g5 112 ([.int .i64 ((ps[k]).1), vd32]) := bg5
            refine re (sq (rg (r (fa Try.underlying112 rfl ti2 rfl rfl) (r (ldb Try.underlying2 rfl rfl bg5 rfl) (r (bi rfl rfl rfl) (r (mv rfl) ?_))))))
            refine sp 37 rfl (fun b0 => ?_) (fun b0 => ?_)
            · refine gn rfl rfl rfl (gn rfl rfl rfl (gn rfl rfl rfl (gn rfl rfl rfl (r (pk rfl rfl) (r (mv rfl) (gn rfl rfl rfl (gn rfl rfl rfl (gn rfl rfl rfl (gn rfl rfl rfl (r (pk rfl rfl) (re (ct rfl (sq ?_)))))))))))))
              refine gen (fun ρ => ρ 3 = .int .i64 (blks xs) ∧ ρ 28 = u ∧ ρ 29 = .int .i64 (ps.length : Int) ∧ ρ 30 = .int .i64 (k : Int) ∧ True) ⟨y3, y28, y29, y30, trivial⟩ ?_
              rintro ρ ⟨z3, z28, z29, z30, -⟩
              refine rg (r (sa rfl) (re (rt ?_)))
              exact fin1 (v := .bool false) Try.results59 rfl ⟨congrArg Value.bool (vdisk_bad hk' (fun e => by omega)).symm, hcS3g5⟩
            · refine gy rfl rfl rfl (r (fa Try.underlying112 rfl ti2 rfl rfl) (gy rfl rfl rfl (r (ldb Try.underlying2 rfl rfl bg5 rfl) (gy rfl rfl rfl (r (mv y3) (gy rfl rfl rfl (r (bi rfl rfl rfl) (r (pk rfl rfl) (r (mv rfl) ?_)))))))))
              refine sp 43 rfl (fun b1 => ?_) (fun b1 => ?_)
              · refine gn rfl rfl rfl (gn rfl rfl rfl (gn rfl rfl rfl (gn rfl rfl rfl (r (pk rfl rfl) (re (ct rfl (sq ?_)))))))
                refine gen (fun ρ => ρ 3 = .int .i64 (blks xs) ∧ ρ 28 = u ∧ ρ 29 = .int .i64 (ps.length : Int) ∧ ρ 30 = .int .i64 (k : Int) ∧ True) ⟨y3, y28, y29, y30, trivial⟩ ?_
                rintro ρ ⟨z3, z28, z29, z30, -⟩
                refine rg (r (sa rfl) (re (rt ?_)))
                exact fin1 (v := .bool false) Try.results59 rfl ⟨congrArg Value.bool (vdisk_bad hk' (fun e => by omega)).symm, hcS3g5⟩
              · refine gy rfl rfl rfl (r (fa Try.underlying112 rfl ti40 rfl rfl) (gy rfl rfl rfl (r (ldb Try.underlying40 rfl rfl bg5 rfl) (gy rfl rfl rfl (r (ln Try.underlying40 rfl ((Rd32.t hcS3g5))) (gy rfl rfl rfl (r (bi rfl rfl rfl) (r (pk rfl rfl) (re ?_)))))))))
                refine cpn rfl (fun hb => ?_) (fun hb => ?_)
                · refine sq ?_
                  refine gen (fun ρ => ρ 3 = .int .i64 (blks xs) ∧ ρ 28 = u ∧ ρ 29 = .int .i64 (ps.length : Int) ∧ ρ 30 = .int .i64 (k : Int) ∧ True) ⟨y3, y28, y29, y30, trivial⟩ ?_
                  rintro ρ ⟨z3, z28, z29, z30, -⟩
                  refine rg (r (sa rfl) (re (rt ?_)))
                  exact fin1 (v := .bool false) Try.results59 rfl ⟨congrArg Value.bool (vdisk_bad hk' (fun e => by omega)).symm, hcS3g5⟩
                · have hok' := wok_take hk' hok ⟨by omega, by omega, by omega⟩
                  refine sk (be ?_)
                  refine gen (fun ρ => ρ 3 = .int .i64 (blks xs) ∧ ρ 28 = u ∧ ρ 29 = .int .i64 (ps.length : Int) ∧ ρ 30 = .int .i64 (k : Int) ∧ True) ⟨y3, y28, y29, y30, trivial⟩ ?_
                  rintro ρ ⟨z3, z28, z29, z30, -⟩
                  refine rg (r (ad ((k : Int) + 1) z30 rfl (by omega)) (r (mv rfl) (re ?_)))
                  exact ag (k + 1) ⟨z3, z28, z29, rfl, hcS3g5, ⟨by omega, hok'⟩⟩ (by first | omega | (dsimp only; omega))
          · obtain rfl : k = ps.length := by omega
            rw [List.take_length] at hok
            refine ex rfl (sq (rg (r (sa rfl) (re (rt ?_)))))
            exact fin1 (v := .bool true) Try.results59 rfl ⟨congrArg Value.bool (vdisk_good ⟨by omega, by omega, by omega, by omega⟩ hok).symm, hc⟩
theorem w_FnExactValidDisk {w : World} {F G : List Nat} {v u : Value} {xs : List Int} {ps : List (Int × List Int)} (hx : u8.R w F v xs) (hp : kW.R w G u ps) (l0 : xs.length ≤ 9223372036854775807) (l1 : ps.length ≤ 9223372036854775807) (l2 : ∀ x, x ∈ ps → x.2.length ≤ 9223372036854775807) :
    Ret Try.prog 11 #[.agg #[v, u]] w (fun r w' => r = .bool true ∧ Ch [] w w') := by
  refine enter Try.func11 rfl Try.ntmps11 (by rfl) (by rfl) ?_
  refine sq (rg (bx rfl ?_))
  intro g1 wg1 eg1 sg1 bg1 cg1
  have qg1 := le_new (Ch.refl [] w).size eg1
  have hcg1 : Ch [] w wg1 := (Ch.refl [] w).t cg1
  replace bg1 : B wg1 g1 74 ([v, u]) := bg1
  refine r (sa rfl) (re (sq (rg (r (sa rfl) (re (sq (rg (r (lab [v, u] Try.underlying74 rfl ti74 rfl bg1 rfl rfl) (r (mv rfl) (cl go56 (szDisk (hx.t hcg1) (hp.t hcg1) l0 l1 l2 (by omega)) (ac rfl (ac rfl an)) ?_))))))))))
  rintro r wz ⟨rfl, cz⟩
  replace bg1 := cz.b0 bg1
  have hcz : Ch [] w wz := hcg1.t cz
  refine r (sa rfl) (re (sq (sq (rg (r (mv rfl) (r (bi rfl rfl rfl) (re ?_)))))))
  refine cp rfl (fun h => ?_) (fun h => ?_)
  · refine sq (rg (r (sa rfl) (re (rt ?_))))
    exact fin1 (v := .bool true) Try.results11 rfl ⟨rfl, hcz⟩
  · have hsz : xs.length + szW ps ≤ 1048576 := by unfold lft at h; split at h <;> omega
    have hlen := szW_len (xs := ps)
    have lx : xs.length ≤ 1000000000 := by omega
    have lps : ps.length ≤ 1000000000 := by omega
    have lxx : ∀ x, x ∈ ps → x.2.length ≤ 1000000000 := fun x hx => by have := szW_mem x hx; omega
    refine sk (sq (rg (r (lab [v, u] Try.underlying74 rfl ti74 rfl bg1 rfl rfl) (cl go58 (toDisk (hx.t hcz) (hp.t hcz) lx lps lxx) (ac rfl an) ?_))))
    rintro _ wd1 ⟨⟨v1, vp1, F1, Fp1, rfl, W1, Wp1, n1, np1, x1_p1, f1, fp1⟩, cd1⟩
    have d1_g1 := old_d f1 bg1.lt
    replace f1 := low_t hcz f1
    have dp1_g1 := old_d fp1 bg1.lt
    replace fp1 := low_t hcz fp1
    replace bg1 := cd1.b0 bg1
    have hcd1 : Ch [] w wd1 := hcz.t cd1
    refine cl go57 (spec_ValidDisk W1.R Wp1.R lx lps lxx) (ac rfl an) ?_
    rintro r wv1 ⟨rfl, cv1⟩
    replace bg1 := cv1.b0 bg1
    replace W1 := W1.t cv1
    replace Wp1 := Wp1.t cv1
    have hcv1 : Ch [] w wv1 := hcd1.t cv1
    refine r (sa rfl) (re (sq ?_))
    refine gen (fun ρ => ρ 1 = .pointer (some ⟨g1, 0, none⟩) ∧ ρ 2 = .bool false ∧ ρ 4 = .bool (vdisk xs ps) ∧ True) ⟨rfl, rfl, rfl, trivial⟩ ?_
    rintro ρ ⟨z1, z2, z4, -⟩
    refine rg (r (lab [v, u] Try.underlying74 rfl ti74 z1 bg1 rfl rfl) (cl go58 (toDisk (hx.t hcv1) (hp.t hcv1) lx lps lxx) (ac rfl an) ?_))
    rintro _ wd2 ⟨⟨v2, vp2, F2, Fp2, rfl, W2, Wp2, n2, np2, x2_p2, f2, fp2⟩, cd2⟩
    have d2_g1 := old_d f2 bg1.lt
    have x1_2 := x_new W1.lt f2
    have xp1_2 := x_new Wp1.lt f2
    replace f2 := low_t hcv1 f2
    have dp2_g1 := old_d fp2 bg1.lt
    have x1_p2 := x_new W1.lt fp2
    have xp1_p2 := x_new Wp1.lt fp2
    replace fp2 := low_t hcv1 fp2
    replace bg1 := cd2.b0 bg1
    replace W1 := W1.t cd2
    replace Wp1 := Wp1.t cd2
    have hcd2 : Ch [] w wd2 := hcv1.t cd2
    refine al ti49 ?_
    intro g5 wg5 eg5 sg5 bg5 cg5
    have ng1_g5 := ne_new bg1.lt eg5
    have d1_g5 := fresh_d W1.lt eg5
    have dp1_g5 := fresh_d Wp1.lt eg5
    have d2_g5 := fresh_d W2.lt eg5
    have dp2_g5 := fresh_d Wp2.lt eg5
    have qg5 := le_new hcd2.size eg5
    replace bg1 := cg5.b0 bg1
    replace W1 := W1.t cg5
    replace Wp1 := Wp1.t cg5
    replace W2 := W2.t cg5
    replace Wp2 := Wp2.t cg5
    have hcg5 : Ch [] w wg5 := hcd2.t cg5
    replace bg5 : B wg5 g5 49 ([.slice none 0 0, .slice none 0 0]) := bg5
    refine st ti49 rfl rfl bg5 rfl (Nat.le_of_ble_eq_true rfl) (oc (W2.R).oneCell (oc (Wp2.R).oneCell on)) ?_
    intro wS3g5 sS3g5 bg5 cS3g5
    replace bg1 := cS3g5.b bg1 (nin1 ng1_g5)
    replace W1 := W1.tt cS3g5 d1_g5
    replace Wp1 := Wp1.tt cS3g5 dp1_g5
    replace W2 := W2.tt cS3g5 d2_g5
    replace Wp2 := Wp2.tt cS3g5 dp2_g5
    have hcS3g5 : Ch [] w wS3g5 := hcg5.own cS3g5 qg5
    replace bg5 : B wS3g5 g5 49 ([v2, vp2]) := bg5
    refine re (sq (rg (r (lab [v2, vp2] Try.underlying49 rfl ti49 rfl bg5 rfl rfl) (cl go59 (impl_ValidDisk W2.R Wp2.R lx lps lxx) (ac rfl an) ?_))))
    rintro r wv2 ⟨rfl, cv2⟩
    replace bg1 := cv2.b0 bg1
    replace bg5 := cv2.b0 bg5
    replace W1 := W1.t cv2
    replace Wp1 := Wp1.t cv2
    replace W2 := W2.t cv2
    replace Wp2 := Wp2.t cv2
    have hcv2 : Ch [] w wv2 := hcS3g5.t cv2
    refine r (sa rfl) (re (sq (sq (rg (r (mv rfl) (r (mv z4) (r (bne_ Try.underlying4 rfl rfl) (re ?_))))))))
    refine cf (show Value.bool (!(vdisk xs ps == vdisk xs ps)) = Value.bool false from by simp) ?_
    refine sk (sq (sq ?_))
    refine rdd mixed ?_
    intro wD cD
    replace bg1 := cD.b0 bg1
    replace bg5 := cD.b0 bg5
    replace W1 := W1.t cD
    replace Wp1 := Wp1.t cD
    replace W2 := W2.t cD
    replace Wp2 := Wp2.t cD
    have hcD : Ch [] w wD := hcv2.t cD
    have bg1D := bg1
    have bg5D := bg5
    have W1D := W1
    have Wp1D := Wp1
    have W2D := W2
    have Wp2D := Wp2
    refine dt 0 rfl (by kernel_rfl) (lab [v2, vp2] Try.underlying49 rfl ti49 rfl bg5 rfl rfl) (dt 1 rfl (by kernel_rfl) (lab [v, u] Try.underlying74 rfl ti74 z1 bg1 rfl rfl) (d1 2 (by kernel_rfl) <| uc rfl go58 (ac rfl an) (toDisk (hx.t hcD) (hp.t hcD) lx lps lxx) ?_))
    rintro _ wd3 ⟨⟨v3, vp3, F3, Fp3, rfl, W3, Wp3, n3, np3, x3_p3, f3, fp3⟩, cd3⟩
    have N3 := f3
    have Np3 := fp3
    have d3_g1 := old_d f3 bg1.lt
    have d3_g5 := old_d f3 bg5.lt
    have x1_3 := x_new W1.lt f3
    have xp1_3 := x_new Wp1.lt f3
    have x2_3 := x_new W2.lt f3
    have xp2_3 := x_new Wp2.lt f3
    replace f3 := low_t hcD f3
    have dp3_g1 := old_d fp3 bg1.lt
    have dp3_g5 := old_d fp3 bg5.lt
    have x1_p3 := x_new W1.lt fp3
    have xp1_p3 := x_new Wp1.lt fp3
    have x2_p3 := x_new W2.lt fp3
    have xp2_p3 := x_new Wp2.lt fp3
    replace fp3 := low_t hcD fp3
    replace bg1 := cd3.b0 bg1
    replace bg5 := cd3.b0 bg5
    replace W1 := W1.t cd3
    replace Wp1 := Wp1.t cd3
    replace W2 := W2.t cd3
    replace Wp2 := Wp2.t cd3
    have hcd3D := (Ch.refl [] wD).t cd3
    have hcd3 : Ch [] w wd3 := hcD.t cd3
    have fD3 := low_t (Ch.refl [] wD) N3
    have fDp3 := low_t (Ch.refl [] wD) Np3
    refine ⟨hcd3D, ?_⟩
    refine d1 3 (by kernel_rfl) <| uc rfl go41 (ac rfl (ac rfl an)) (eqDisk W2.R Wp2.R W3.R Wp3.R lx lps lxx) ?_
    rintro r wq ⟨rfl, cq⟩
    replace bg1 := cq.b0 bg1
    replace bg5 := cq.b0 bg5
    replace W1 := W1.t cq
    replace Wp1 := Wp1.t cq
    replace W2 := W2.t cq
    replace Wp2 := Wp2.t cq
    replace W3 := W3.t cq
    replace Wp3 := Wp3.t cq
    have hcqD := hcd3D.t cq
    have hcq : Ch [] w wq := hcd3.t cq
    refine ⟨hcqD, ?_⟩
    refine dt 4 rfl (by kernel_rfl) (nt rfl) ?_
    refine dd (by kernel_rfl) (fun _ => ?_)
    refine cf ((rfl : _ = Value.bool (!(decide ((xs, ps) = (xs, ps))))).trans (show Value.bool (!(decide ((xs, ps) = (xs, ps)))) = Value.bool false from by rw [decide_eq_true rfl]; rfl)) ?_
    refine sk (sq ?_)
    refine gen (fun ρ => ρ 2 = .bool false ∧ True) ⟨z2, trivial⟩ ?_
    rintro ρ ⟨z2, -⟩
    refine rg (r (sa rfl) (re (rt ?_)))
    exact fin1 (v := .bool true) Try.results11 rfl ⟨rfl, hcq⟩
end Go.Proofs.Ytgpcanjmgdmdhaa
