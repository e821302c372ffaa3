/-
  CONTRACTS 7: the program's headers; the laws' marks; the law on EncodeHeader. No condition.
-/
import Derived.Test.Ytgpcanjmgdmdhaa6
namespace Go.Proofs.Ytgpcanjmgdmdhaa
open Go Go.Eng
set_option maxRecDepth 100000
set_option maxHeartbeats 4000000
set_option linter.unusedVariables false
theorem Header_valid {w : World} {q s b : Int} : Ret Try.prog 98 #[.agg #[.int .i64 q, .int .i64 s, .int .i64 b]] w (fun r w' => r = .bool (decide (hdr q s b)) ∧ Ch [] w w') := by
  refine enter Try.func98 rfl Try.ntmps98 (by rfl) (by rfl) ?_
  refine sq (rg (bx rfl ?_))
  intro g1 wg1 eg1 sg1 bg1 cg1
  have qg1 := le_new (Ch.refl [] w).size eg1
  have hcg1 : Ch [] w wg1 := (Ch.refl [] w).t cg1
  replace bg1 : B wg1 g1 42 ([.int .i64 q, .int .i64 s, .int .i64 b]) := bg1
  refine r (sa rfl) (re (sq (rg (r (fa Try.underlying42 rfl ti2 rfl rfl) (r (ldb Try.underlying2 rfl rfl bg1 rfl) (r (bi rfl rfl rfl) (r (mv rfl) ?_)))))))
  refine sp 6 rfl (fun h0 => ?_) (fun h0 => ?_)
  · refine gy rfl rfl rfl (r (fa Try.underlying42 rfl ti2 rfl rfl) (gy rfl rfl rfl (r (ldb Try.underlying2 rfl rfl bg1 rfl) (gy rfl rfl rfl (r (bi rfl rfl rfl) (r (pk rfl rfl) (r (mv rfl) ?_)))))))
    refine sp 11 rfl (fun h1 => ?_) (fun h1 => ?_)
    · refine gy rfl rfl rfl (r (fa Try.underlying42 rfl ti2 rfl rfl) (gy rfl rfl rfl (r (ldb Try.underlying2 rfl rfl bg1 rfl) (gy rfl rfl rfl (r (bi rfl rfl rfl) (r (pk rfl rfl) (r (mv rfl) ?_)))))))
      refine sp 16 rfl (fun h2 => ?_) (fun h2 => ?_)
      · refine gy rfl rfl rfl (r (fa Try.underlying42 rfl ti2 rfl rfl) (gy rfl rfl rfl (r (ldb Try.underlying2 rfl rfl bg1 rfl) (gy rfl rfl rfl (r (bi rfl rfl rfl) (r (pk rfl rfl) (r (mv rfl) ?_)))))))
        refine sp 21 rfl (fun h3 => ?_) (fun h3 => ?_)
        · refine gy rfl rfl rfl (r (fa Try.underlying42 rfl ti2 rfl rfl) (gy rfl rfl rfl (r (ldb Try.underlying2 rfl rfl bg1 rfl) (gy rfl rfl rfl (r (bi rfl rfl rfl) (r (pk rfl rfl) (r (mv rfl) ?_)))))))
          refine sp 26 rfl (fun h4 => ?_) (fun h4 => ?_)
          · refine gy rfl rfl rfl (r (fa Try.underlying42 rfl ti2 rfl rfl) (gy rfl rfl rfl (r (ldb Try.underlying2 rfl rfl bg1 rfl) (gy rfl rfl rfl (r (bi rfl rfl rfl) (r (pk rfl rfl) (r (sa rfl) (re (rt ?_)))))))))
            exact fin1 (v := .bool (decide (b ≤ 65535))) Try.results98 rfl ⟨congrArg Value.bool (decide_eq_decide.2 (by omega)), hcg1⟩
          · refine gn rfl rfl rfl (gn rfl rfl rfl (gn rfl rfl rfl (r (pk rfl rfl) (r (sa rfl) (re (rt ?_))))))
            exact fin1 (v := .bool false) Try.results98 rfl ⟨congrArg Value.bool ((decide_eq_false (by omega)).symm), hcg1⟩
        · refine gn rfl rfl rfl (gn rfl rfl rfl (gn rfl rfl rfl (r (pk rfl rfl) (r (mv rfl) (gn rfl rfl rfl (gn rfl rfl rfl (gn rfl rfl rfl (r (pk rfl rfl) (r (sa rfl) (re (rt ?_)))))))))))
          exact fin1 (v := .bool false) Try.results98 rfl ⟨congrArg Value.bool ((decide_eq_false (by omega)).symm), hcg1⟩
      · refine gn rfl rfl rfl (gn rfl rfl rfl (gn rfl rfl rfl (r (pk rfl rfl) (r (mv rfl) (gn rfl rfl rfl (gn rfl rfl rfl (gn rfl rfl rfl (r (pk rfl rfl) (r (mv rfl) (gn rfl rfl rfl (gn rfl rfl rfl (gn rfl rfl rfl (r (pk rfl rfl) (r (sa rfl) (re (rt ?_))))))))))))))))
        exact fin1 (v := .bool false) Try.results98 rfl ⟨congrArg Value.bool ((decide_eq_false (by omega)).symm), hcg1⟩
    · refine gn rfl rfl rfl (gn rfl rfl rfl (gn rfl rfl rfl (r (pk rfl rfl) (r (mv rfl) (gn rfl rfl rfl (gn rfl rfl rfl (gn rfl rfl rfl (r (pk rfl rfl) (r (mv rfl) (gn rfl rfl rfl (gn rfl rfl rfl (gn rfl rfl rfl (r (pk rfl rfl) (r (mv rfl) (gn rfl rfl rfl (gn rfl rfl rfl (gn rfl rfl rfl (r (pk rfl rfl) (r (sa rfl) (re (rt ?_)))))))))))))))))))))
      exact fin1 (v := .bool false) Try.results98 rfl ⟨congrArg Value.bool ((decide_eq_false (by omega)).symm), hcg1⟩
  · refine gn rfl rfl rfl (gn rfl rfl rfl (gn rfl rfl rfl (r (pk rfl rfl) (r (mv rfl) (gn rfl rfl rfl (gn rfl rfl rfl (gn rfl rfl rfl (r (pk rfl rfl) (r (mv rfl) (gn rfl rfl rfl (gn rfl rfl rfl (gn rfl rfl rfl (r (pk rfl rfl) (r (mv rfl) (gn rfl rfl rfl (gn rfl rfl rfl (gn rfl rfl rfl (r (pk rfl rfl) (r (mv rfl) (gn rfl rfl rfl (gn rfl rfl rfl (gn rfl rfl rfl (r (pk rfl rfl) (r (sa rfl) (re (rt ?_))))))))))))))))))))))))))
    exact fin1 (v := .bool false) Try.results98 rfl ⟨congrArg Value.bool ((decide_eq_false (by omega)).symm), hcg1⟩
theorem toHeader {w : World} {q s b : Int} : Ret Try.prog 34 #[.agg #[.int .i64 q, .int .i64 s, .int .i64 b]] w (fun r w' => r = .agg #[.int .i64 q, .int .i64 s, .int .i64 b] ∧ Ch [] w w') := by
  refine enter Try.func34 rfl Try.ntmps34 (by rfl) (by rfl) ?_
  refine sq (rg (bx rfl ?_))
  intro g1 wg1 eg1 sg1 bg1 cg1
  have qg1 := le_new (Ch.refl [] w).size eg1
  have hcg1 : Ch [] w wg1 := (Ch.refl [] w).t cg1
  replace bg1 : B wg1 g1 39 ([.int .i64 q, .int .i64 s, .int .i64 b]) := bg1
  refine al ti42 ?_
  intro g2 wg2 eg2 sg2 bg2 cg2
  have ng1_g2 := ne_new bg1.lt eg2
  have qg2 := le_new hcg1.size eg2
  replace bg1 := cg2.b0 bg1
  have hcg2 : Ch [] w wg2 := hcg1.t cg2
  replace bg2 : B wg2 g2 42 ([.int .i64 0, .int .i64 0, .int .i64 0]) := bg2
  refine re (sq (rg (al ti42 ?_)))
  intro g3 wg3 eg3 sg3 bg3 cg3
  have ng1_g3 := ne_new bg1.lt eg3
  have ng2_g3 := ne_new bg2.lt eg3
  have qg3 := le_new hcg2.size eg3
  replace bg1 := cg3.b0 bg1
  replace bg2 := cg3.b0 bg2
  have hcg3 : Ch [] w wg3 := hcg2.t cg3
  replace bg3 : B wg3 g3 42 ([.int .i64 0, .int .i64 0, .int .i64 0]) := bg3
  refine re (sq (rg (r (fa Try.underlying39 rfl ti2 rfl rfl) (r (ldb Try.underlying2 rfl rfl bg1 rfl) (r (fa Try.underlying42 rfl ti2 rfl rfl) (st ti2 rfl rfl bg3 rfl (Nat.le_of_ble_eq_true rfl) (one_all rfl) ?_))))))
  intro wS3g3 sS3g3 bg3 cS3g3
  replace bg1 := cS3g3.b bg1 (nin1 ng1_g3)
  replace bg2 := cS3g3.b bg2 (nin1 ng2_g3)
  have hcS3g3 : Ch [] w wS3g3 := hcg3.own cS3g3 qg3
  replace bg3 : B wS3g3 g3 42 ([.int .i64 q, .int .i64 0, .int .i64 0]) := bg3
  refine re (sq (rg (r (fa Try.underlying39 rfl ti2 rfl rfl) (r (ldb Try.underlying2 rfl rfl bg1 rfl) (r (fa Try.underlying42 rfl ti2 rfl rfl) (st ti2 rfl rfl bg3 rfl (Nat.le_of_ble_eq_true rfl) (one_all rfl) ?_))))))
  intro wS3g3 sS3g3 bg3 cS3g3
  replace bg1 := cS3g3.b bg1 (nin1 ng1_g3)
  replace bg2 := cS3g3.b bg2 (nin1 ng2_g3)
  have hcS3g3 : Ch [] w wS3g3 := hcS3g3.own cS3g3 qg3
  replace bg3 : B wS3g3 g3 42 ([.int .i64 q, .int .i64 s, .int .i64 0]) := bg3
  refine re (sq (rg (r (fa Try.underlying39 rfl ti2 rfl rfl) (r (ldb Try.underlying2 rfl rfl bg1 rfl) (r (fa Try.underlying42 rfl ti2 rfl rfl) (st ti2 rfl rfl bg3 rfl (Nat.le_of_ble_eq_true rfl) (one_all rfl) ?_))))))
  intro wS3g3 sS3g3 bg3 cS3g3
  replace bg1 := cS3g3.b bg1 (nin1 ng1_g3)
  replace bg2 := cS3g3.b bg2 (nin1 ng2_g3)
  have hcS3g3 : Ch [] w wS3g3 := hcS3g3.own cS3g3 qg3
  replace bg3 : B wS3g3 g3 42 ([.int .i64 q, .int .i64 s, .int .i64 b]) := bg3
  refine re (sq ?_)
  refine gen (fun ρ => ρ 2 = .pointer (some ⟨g2, 0, none⟩) ∧ ρ 3 = .pointer (some ⟨g3, 0, none⟩) ∧ True) ⟨rfl, rfl, trivial⟩ ?_
  rintro ρ ⟨z2, z3, -⟩
  refine rg (r (lab [.int .i64 q, .int .i64 s, .int .i64 b] Try.underlying42 rfl ti42 z3 bg3 rfl rfl) (st ti42 z2 rfl bg2 rfl (Nat.le_of_ble_eq_true rfl) (one_all rfl) ?_))
  intro wS1g2 sS1g2 bg2 cS1g2
  replace bg1 := cS1g2.b bg1 (nin1 ng1_g2)
  replace bg3 := cS1g2.b bg3 (nin1 ng2_g3.symm)
  have hcS1g2 : Ch [] w wS1g2 := hcS3g3.own cS1g2 qg2
  replace bg2 : B wS1g2 g2 42 ([.int .i64 q, .int .i64 s, .int .i64 b]) := bg2
  refine re (rt ?_)
  exact finc  (cs := [.int .i64 q, .int .i64 s, .int .i64 b]) Try.results34 Try.underlying42 rfl ti42 z2 bg2 rfl  ⟨rfl, hcS1g2⟩
theorem big_zero (n : Nat) : big 0 n = List.replicate n 0 := by
  induction n with
  | zero => rfl
  | succ n ih => rw [big, show (0 : Int) / 256 = 0 by rfl, ih, show (0 : Int) % 256 = 0 by rfl, ← List.replicate_succ']
theorem encH_flat (q s b : Int) : flat [(8, q), (2, s), (2, b), (44, 0), (8, q)] = encH q s b := by
  have h := big_zero 44
  simp only [flat, List.flatMap_cons, List.flatMap_nil, List.append_nil, encH, List.append_assoc]
  show big q 8 ++ (big s 2 ++ (big b 2 ++ (big 0 44 ++ big q 8))) = _
  rw [h]
theorem encH_len (q s b : Int) : (encH q s b).length = 64 := by simp [encH, big_len]
theorem Header_block {w : World} {q s b : Int} (h : hdr q s b) : Ret Try.prog 99 #[.agg #[.int .i64 q, .int .i64 s, .int .i64 b]] w (fun r w' => r = .agg (byts (encH q s b)).toArray ∧ Ch [] w w') := by
  refine enter Try.func99 rfl Try.ntmps99 (by rfl) (by rfl) ?_
  refine sq (rg (bx rfl ?_))
  intro g1 wg1 eg1 sg1 bg1 cg1
  have qg1 := le_new (Ch.refl [] w).size eg1
  have hcg1 : Ch [] w wg1 := (Ch.refl [] w).t cg1
  replace bg1 : B wg1 g1 42 ([.int .i64 q, .int .i64 s, .int .i64 b]) := bg1
  refine al ti121 ?_
  intro g2 wg2 eg2 sg2 bg2 cg2
  have ng1_g2 := ne_new bg1.lt eg2
  have qg2 := le_new hcg1.size eg2
  replace bg1 := cg2.b0 bg1
  have hcg2 : Ch [] w wg2 := hcg1.t cg2
  replace bg2 : B wg2 g2 121 (byts (List.replicate 64 0)) := bg2
  refine re (sq (rg (r (fa Try.underlying42 rfl ti2 rfl rfl) (r (ldb Try.underlying2 rfl rfl bg1 rfl) (r (bd (r := [.int .i64 8, .int .i64 q]) ti134 pl134 (pc rfl (cel1 rfl) (pc rfl (cel1 rfl) pn)) rfl) (r (fa Try.underlying42 rfl ti2 rfl rfl) (r (ldb Try.underlying2 rfl rfl bg1 rfl) (r (bd (r := [.int .i64 2, .int .i64 s]) ti134 pl134 (pc rfl (cel1 rfl) (pc rfl (cel1 rfl) pn)) rfl) (r (fa Try.underlying42 rfl ti2 rfl rfl) (r (ldb Try.underlying2 rfl rfl bg1 rfl) (r (bd (r := [.int .i64 2, .int .i64 b]) ti134 pl134 (pc rfl (cel1 rfl) (pc rfl (cel1 rfl) pn)) rfl) (r (bd (r := [.int .i64 44, .int .i64 0]) ti134 pl134 (pc rfl (cel1 rfl) (pc rfl (cel1 rfl) pn)) rfl) (r (fa Try.underlying42 rfl ti2 rfl rfl) (r (ldb Try.underlying2 rfl rfl bg1 rfl) (r (bd (r := [.int .i64 8, .int .i64 q]) ti134 pl134 (pc rfl (cel1 rfl) (pc rfl (cel1 rfl) pn)) rfl) (ef (bsm (cs := [.int .i64 8, .int .i64 q, .int .i64 2, .int .i64 s, .int .i64 2, .int .i64 b, .int .i64 44, .int .i64 0, .int .i64 8, .int .i64 q]) Try.underlying132 ti134 rfl (by rfl) (pc rfl rfl (pc rfl rfl (pc rfl rfl (pc rfl rfl (pc rfl rfl pn))))) rfl) ?_))))))))))))))))
  rintro _ wg16 ⟨g16, eg16, rfl, sg16, bg16, cg16⟩
  have ng1_g16 := ne_new bg1.lt eg16
  have ng2_g16 := ne_new bg2.lt eg16
  have qg16 := le_new hcg2.size eg16
  replace bg1 := cg16.b0 bg1
  replace bg2 := cg16.b0 bg2
  have hcg16 : Ch [] w wg16 := hcg2.t cg16
  replace bg16 : B wg16 g16 134 ([.int .i64 8, .int .i64 q, .int .i64 2, .int .i64 s, .int .i64 2, .int .i64 b, .int .i64 44, .int .i64 0, .int .i64 8, .int .i64 q]) := bg16
  refine cl go108 (bytesOf (ns := [(8, q), (2, s), (2, b), (44, 0), (8, q)]) ((row_of_B (dk := knum) (xs := [(8, q), (2, s), (2, b), (44, 0), (8, q)]) bg16 (els_flat [(8, q), (2, s), (2, b), (44, 0), (8, q)]) (Nat.le_of_ble_eq_true rfl)).R) (by simp) (by simp; omega)) (ac rfl an) ?_
  rintro r1 wr ⟨⟨F1, W1, n1, f1⟩, cr⟩
  rw [encH_flat] at W1
  have d1_g1 := old_d f1 bg1.lt
  have d1_g2 := old_d f1 bg2.lt
  have d1_g16 := old_d f1 bg16.lt
  replace f1 := low_t hcg16 f1
  replace bg1 := cr.b0 bg1
  replace bg2 := cr.b0 bg2
  replace bg16 := cr.b0 bg16
  have hcr : Ch [] w wr := hcg16.t cr
  obtain ⟨pz, cz, ez, hz⟩ := W1.R.ints (by rw [encH_len]; decide)
  refine r (s2a Try.underlying121 (Eq.trans rfl ez) (by rw [encH_len]; exact Nat.le_refl _)) (r (la (byts (encH q s b)) Try.underlying121 rfl ti121 rfl (by simp [byts, encH_len]) hz) (sta ti121 rfl rfl (encH_len q s b) bg2 (by simp) ?_))
  intro wS17g2 sS17g2 bg2 cS17g2
  replace bg1 := cS17g2.b bg1 (nin1 ng1_g2)
  replace bg16 := cS17g2.b bg16 (nin1 ng2_g16.symm)
  replace W1 := W1.tt cS17g2 d1_g2
  have hcS17g2 : Ch [] w wS17g2 := hcr.own cS17g2 qg2
  refine re (rt ?_)
  exact finc  (cs := byts (encH q s b)) Try.results99 Try.underlying121 rfl ti121 rfl bg2 (by simp [byts, (encH_len q s b)])  ⟨rfl, hcS17g2⟩
theorem impl_EncodeHeader {w : World} {q s b : Int} : Ret Try.prog 35 #[.agg #[.int .i64 q, .int .i64 s, .int .i64 b]] w (fun r w' => (∃ e, New u8 e w w' r (encHeader q s b)) ∧ Ch [] w w') := by
  refine enter Try.func35 rfl Try.ntmps35 (by rfl) (by rfl) ?_
  refine sq (rg (bx rfl ?_))
  intro g1 wg1 eg1 sg1 bg1 cg1
  have qg1 := le_new (Ch.refl [] w).size eg1
  have hcg1 : Ch [] w wg1 := (Ch.refl [] w).t cg1
  replace bg1 : B wg1 g1 42 ([.int .i64 q, .int .i64 s, .int .i64 b]) := bg1
  refine r (sa rfl) (re (sq (sq (rg (r (lab [.int .i64 q, .int .i64 s, .int .i64 b] Try.underlying42 rfl ti42 rfl bg1 rfl rfl) (cl go98 (Header_valid) (ac rfl an) ?_))))))
  rintro r wa ⟨rfl, ca⟩
  replace bg1 := ca.b0 bg1
  have hca : Ch [] w wa := hcg1.t ca
  refine r (nt rfl) (re ?_)
  refine cpn rfl (fun h => ?_) (fun h => ?_)
  · rw [show encHeader q s b = [] from if_neg h]
    refine sq (rg (r (sa rfl) (re (rt ?_))))
    exact fin1 (v := .slice none 0 0) Try.results35 rfl ⟨⟨5, [], Kd.nil_W _ _ _, List.nodup_nil, by simp⟩, hca⟩
  · rw [show encHeader q s b = encH q s b from if_pos h]
    refine sk (sq (rg (r (lab [.int .i64 q, .int .i64 s, .int .i64 b] Try.underlying42 rfl ti42 rfl bg1 rfl rfl) (cl go99 (Header_block h) (ac rfl an) ?_))))
    rintro r wb ⟨rfl, cb⟩
    replace bg1 := cb.b0 bg1
    have hcb : Ch [] w wb := hca.t cb
    refine al ti121 ?_
    intro g3 wg3 eg3 sg3 bg3 cg3
    have ng1_g3 := ne_new bg1.lt eg3
    have qg3 := le_new hcb.size eg3
    replace bg1 := cg3.b0 bg1
    have hcg3 : Ch [] w wg3 := hcb.t cg3
    replace bg3 : B wg3 g3 121 (byts (List.replicate 64 0)) := bg3
    refine sta ti121 rfl rfl (encH_len q s b) bg3 (by simp) ?_
    intro wS3g3 sS3g3 bg3 cS3g3
    replace bg1 := cS3g3.b bg1 (nin1 ng1_g3)
    have hcS3g3 : Ch [] w wS3g3 := hcg3.own cS3g3 qg3
    refine re (sq (rg (r (sla Try.underlying121 ti5 rfl) (r (sa rfl) (re (rt ?_))))))
    exact fin1 (v := .slice (some ⟨g3, 0, none⟩) 64 64) Try.results35 rfl ⟨⟨_, [g3], row_of_arr bg3 (encH_len q s b) (by decide), by simp, by simp; exact qg3⟩, hcS3g3⟩
/-! ### The laws' marks -/
def marks (k : Int) (n : Nat) : List Int := (List.range n).map (fun i : Nat => IntKind.u8.wrap (k + (i : Int)))
theorem marks_len (k : Int) (n : Nat) : (marks k n).length = n := by simp [marks]
theorem marks_get (k : Int) (n i : Nat) (h : i < (marks k n).length) : (marks k n)[i] = IntKind.u8.wrap (k + (i : Int)) := by simp [marks]
theorem marks_set {xs : List Int} {k : Int} {i : Nat} (hi : i < xs.length) : (marks k i ++ xs.drop i).set i (IntKind.u8.wrap (k + (i : Int))) = marks k (i + 1) ++ xs.drop (i + 1) := by
  rw [List.set_append_right _ _ (by rw [marks_len]; exact Nat.le_refl _), marks_len, Nat.sub_self, List.drop_eq_getElem_cons hi, List.set_cons_zero]
  simp [marks, List.range_succ]
theorem markByteS {w : World} {F : List Nat} {v : Value} {xs : List Int} {k : Int} {e : TypeId} (hW : u8.W e w F v xs) (hn : F.Nodup) (hk : 0 ≤ k ∧ k ≤ 1000000000000) (lx : xs.length ≤ 1000000000) :
    Ret Try.prog 37 #[v, .int .i64 k] w (fun r w' => r = .int .i64 (k + xs.length) ∧ ∃ F', Apd u8 e w w' F [] F' v v (marks k xs.length)) := by
  refine enter Try.func37 rfl Try.ntmps37 (by rfl) (by rfl) ?_
  refine sq (rg (r (sa rfl) (re (sq (sq (rg (r (sa rfl) (re (bl ?_)))))))))
  refine lp (α := Nat × List Nat) (fun (i, G) ρ w' => ρ 0 = v ∧ ρ 1 = .int .i64 (k + (i : Int)) ∧ ρ 5 = .int .i64 (i : Int) ∧ i ≤ xs.length ∧ Apd u8 e w w' F [] G v v (marks k i ++ xs.drop i)) (fun (i, G) => xs.length - i) (0, F) ?_ ?_
  · exact ⟨rfl, (show _ = Value.int .i64 k from rfl).trans (by simp), rfl, ⟨by omega, Apd.refl hW hn⟩⟩
  rintro ⟨i, G⟩ ρ w' ⟨y0, y1, y5, hi, A⟩
  have hl : (marks k i ++ xs.drop i).length = xs.length := by simp [marks_len]; omega
  refine sq (sq (rg (r (mv y5) (r (mv y0) (r (ln Try.underlying40 rfl (A.W.R)) (r (bi rfl rfl rfl) (re ?_)))))))
  refine cp rfl (fun h => ?_) (fun h => ?_)
  · rw [hl] at h
    have hi' : i < xs.length := by omega
    refine sk (sq (bl (sq (rg (r (mv y0) (r (mv y5) (r (mv y1) (r (cv (IntKind.u8.wrap (k + (i : Int))) Try.underlying3 Try.underlying5 rfl rfl) (ixs (a := IntKind.u8.wrap (k + (i : Int))) Try.underlying40 ti5 rfl A.W rfl (by rw [hl]; exact hi') (fun _ => rfl) ⟨rfl, rfl⟩ (nodup_nil A.nd) ?_)))))))))
    intro _ ws Fs ss As
    refine re (rg (r (mv y1) (r (ad (k + ((i + 1 : Nat) : Int)) rfl rfl (by omega)) (r (sa rfl) (re (be (rg (r (mv y5) (r (ad (((i + 1 : Nat) : Int)) rfl rfl (by omega)) (r (sa rfl) (re ?_)))))))))))
    rw [marks_set hi'] at As
    exact ag (i + 1, Fs) ⟨y0, rfl, rfl, ⟨by omega, A.tr As⟩⟩ (by first | omega | (dsimp only; omega))
  · rw [hl] at h
    obtain rfl : i = xs.length := by omega
    refine ex rfl (sq (rg (r (mv y1) (r (sa rfl) (re (rt ?_))))))
    exact fin1 (v := .int .i64 (k + xs.length)) Try.results37 rfl ⟨rfl, G, by simpa using A⟩
theorem heldByteS {w : World} {F : List Nat} {v : Value} {n : Nat} {k : Int} (hx : u8.R w F v (marks k n)) (hk : 0 ≤ k ∧ k ≤ 1000000000000) (hln : n ≤ 1000000000) :
    Ret Try.prog 38 #[v, .int .i64 k] w (fun r w' => r = .int .i64 (k + n) ∧ Ch [] w w') := by
  refine enter Try.func38 rfl Try.ntmps38 (by rfl) (by rfl) ?_
  have hl := marks_len k n
  refine sq (rg (r (sa rfl) (re (sq (sq (rg (r (sa rfl) (re (bl ?_)))))))))
  refine lp (α := Nat) (fun i ρ w' => ρ 0 = v ∧ ρ 1 = .int .i64 (k + (i : Int)) ∧ ρ 5 = .int .i64 (i : Int) ∧ Ch [] w w' ∧ i ≤ n) (fun i => n - i) 0 ?_ ?_
  · exact ⟨rfl, (show _ = Value.int .i64 k from rfl).trans (by simp), rfl, (Ch.refl [] w), by omega⟩
  rintro i ρ w' ⟨y0, y1, y5, hc, hi⟩
  refine sq (sq (rg (r (mv y5) (r (mv y0) (r (ln Try.underlying40 rfl ((hx.t hc))) (r (bi rfl rfl rfl) (re ?_)))))))
  refine cp rfl (fun h => ?_) (fun h => ?_)
  · have hi' : i < (marks k n).length := by omega
    refine sk (sq (bl (sq (sq (rg (r (mv y0) (r (mv y5) ?_)))))))
    obtain ⟨c14, ad14, k14, e14, p14⟩ := (hx).place i (by omega)
    refine r (ix Try.underlying40 ti5 e14 rfl (by omega)) (r (ld Try.underlying5 rfl rfl (Ch.cell hc p14.cell)) (r (mv y1) (r (cv (IntKind.u8.wrap (k + (i : Int))) Try.underlying3 Try.underlying5 rfl rfl) (r (bi rfl rfl rfl) (re ?_)))))
    refine cpn rfl (fun hne => ?_) (fun hne => ?_)
    · exact absurd (marks_get k n i hi') hne
    · refine sk ?_
      refine gen (fun ρ => ρ 0 = v ∧ ρ 1 = .int .i64 (k + (i : Int)) ∧ ρ 5 = .int .i64 (i : Int) ∧ True) ⟨y0, y1, y5, trivial⟩ ?_
      rintro ρ ⟨z0, z1, z5, -⟩
      refine rg (r (mv z1) (r (ad (k + ((i + 1 : Nat) : Int)) rfl rfl (by omega)) (r (sa rfl) (re (be (rg (r (mv z5) (r (ad (((i + 1 : Nat) : Int)) rfl rfl (by omega)) (r (sa rfl) (re ?_))))))))))
      exact ag (i + 1) ⟨z0, rfl, rfl, hc, by omega⟩ (by first | omega | (dsimp only; omega))
  · obtain rfl : i = n := by omega
    refine ex rfl (sq (rg (r (mv y1) (r (sa rfl) (re (rt ?_))))))
    exact fin1 (v := .int .i64 (k + (i : Int))) Try.results38 rfl ⟨rfl, hc⟩
theorem encHeader_len (q s b : Int) : (encHeader q s b).length ≤ 64 := by
  unfold encHeader; split
  · rw [encH_len]; exact Nat.le_refl _
  · simp
theorem w_FnExactEncodeHeader {w : World} {q s b : Int} : Ret Try.prog 6 #[.agg #[.int .i64 q, .int .i64 s, .int .i64 b]] w (fun r w' => r = .bool true ∧ Ch [] w w') := by
  refine enter Try.func6 rfl Try.ntmps6 (by rfl) (by rfl) ?_
  have hl := encHeader_len q s b
  have lx : (encHeader q s b).length ≤ 1000000000 := by omega
  refine sq (rg (bx rfl ?_))
  intro g1 wg1 eg1 sg1 bg1 cg1
  have qg1 := le_new (Ch.refl [] w).size eg1
  have hcg1 : Ch [] w wg1 := (Ch.refl [] w).t cg1
  replace bg1 : B wg1 g1 39 ([.int .i64 q, .int .i64 s, .int .i64 b]) := bg1
  refine r (sa rfl) (re (sq (rg (r (lab [.int .i64 q, .int .i64 s, .int .i64 b] Try.underlying39 rfl ti39 rfl bg1 rfl rfl) (cl go34 (toHeader) (ac rfl an) ?_)))))
  rintro r wt1 ⟨rfl, ct1⟩
  replace bg1 := ct1.b0 bg1
  have hct1 : Ch [] w wt1 := hcg1.t ct1
  refine cl go33 (spec_EncodeHeader) (ac rfl an) ?_
  rintro r1 ws ⟨⟨F1, W1, n1, f1⟩, cs⟩
  have d1_g1 := old_d f1 bg1.lt
  replace f1 := low_t hct1 f1
  replace bg1 := cs.b0 bg1
  have hcs : Ch [] w ws := hct1.t cs
  refine r (sa rfl) (re (sq (rg (r (lab [.int .i64 q, .int .i64 s, .int .i64 b] Try.underlying39 rfl ti39 rfl bg1 rfl rfl) (cl go34 (toHeader) (ac rfl an) ?_)))))
  rintro r wt2 ⟨rfl, ct2⟩
  replace bg1 := ct2.b0 bg1
  replace W1 := W1.t ct2
  have hct2 : Ch [] w wt2 := hcs.t ct2
  refine cl go35 (impl_EncodeHeader) (ac rfl an) ?_
  rintro r2 wi2 ⟨⟨e2, F2, W2, n2, f2⟩, ci2⟩
  have d2_g1 := old_d f2 bg1.lt
  have x1_2 := x_new W1.lt f2
  replace f2 := low_t hct2 f2
  replace bg1 := ci2.b0 bg1
  replace W1 := W1.t ci2
  have hci2 : Ch [] w wi2 := hct2.t ci2
  refine r (sa rfl) (re (sq (sq ?_)))
  refine gen (fun ρ => ρ 1 = .pointer (some ⟨g1, 0, none⟩) ∧ ρ 2 = .bool false ∧ ρ 3 = r1 ∧ ρ 4 = r2 ∧ True) ⟨rfl, rfl, rfl, rfl, trivial⟩ ?_
  rintro ρ ⟨z1, z2, z3, z4, -⟩
  refine rg (r (mv z4) (r (mv z3) (cl go36 (eqByteS W2.R W1.R lx) (ac rfl (ac rfl an)) ?_)))
  rintro r wqa ⟨rfl, cqa⟩
  replace bg1 := cqa.b0 bg1
  replace W1 := W1.t cqa
  replace W2 := W2.t cqa
  have hcqa : Ch [] w wqa := hci2.t cqa
  refine r (nt rfl) (re ?_)
  refine cf ((rfl : _ = Value.bool (!(decide (encHeader q s b = encHeader q s b)))).trans (show Value.bool (!(decide (encHeader q s b = encHeader q s b))) = Value.bool false from by rw [decide_eq_true rfl]; rfl)) ?_
  refine sk (sq (rg (r (sa rfl) (re (sq (rg (r (mv z4) (r (mv rfl) (cl go37 (markByteS W2 n2 (by omega) lx) (ac rfl (ac rfl an)) ?_)))))))))
  rintro r wm ⟨rfl, Fm, Am⟩
  have hAm := Am.hc W2 hcqa f2
  have tb := Am.blk W2 d2_g1 bg1
  replace d2_g1 := Am.dis d2_g1 bg1.lt
  replace bg1 := tb
  clear tb
  have tb := Am.row W2 x1_2 W1
  have tx := Am.x x1_2 W1.lt
  replace W1 := tb
  clear tb
  replace x1_2 := tx
  clear tx
  replace f2 := Am.low hcqa f2
  replace n2 := Am.nd
  replace W2 := Am.W
  refine r (sa rfl) (re (sq (rg (r (sa rfl) (re (sq ?_))))))
  refine gen (fun ρ => ρ 1 = .pointer (some ⟨g1, 0, none⟩) ∧ ρ 2 = .bool false ∧ ρ 3 = r1 ∧ ρ 4 = r2 ∧ ρ 5 = .int .i64 (1 + ((encHeader q s b).length : Int)) ∧ ρ 6 = .int .i64 1 ∧ True) ⟨z1, z2, z3, z4, rfl, rfl, trivial⟩ ?_
  rintro ρ ⟨z1, z2, z3, z4, z5, z6, -⟩
  refine rg (r (mv z4) (r (mv z6) (cl go38 (heldByteS W2.R (by omega) lx) (ac rfl (ac rfl an)) ?_)))
  rintro r wh ⟨rfl, ch⟩
  replace bg1 := ch.b0 bg1
  replace W1 := W1.t ch
  replace W2 := W2.t ch
  have hch : Ch [] w wh := hAm.t ch
  refine r (sa rfl) (re (sq (sq (rg (r (mv rfl) (r (bi rfl rfl rfl) (re ?_)))))))
  refine cf ((rfl : _ = Value.bool (decide ((1 + ((encHeader q s b).length : Int)) < 0))).trans (congrArg Value.bool (show (decide ((1 + ((encHeader q s b).length : Int)) < 0)) = false from decide_eq_false (by omega)))) ?_
  refine sk (sq (sq (rg (r (mv rfl) (r (mv z5) (r (bi rfl rfl rfl) (re ?_)))))))
  refine cf ((rfl : _ = Value.bool (!decide ((1 + ((encHeader q s b).length : Int)) = (1 + ((encHeader q s b).length : Int))))).trans (show Value.bool (!decide ((1 + ((encHeader q s b).length : Int)) = (1 + ((encHeader q s b).length : Int)))) = Value.bool false from by rw [decide_eq_true rfl]; rfl)) ?_
  refine sk (sq (rg (r (lab [.int .i64 q, .int .i64 s, .int .i64 b] Try.underlying39 rfl ti39 z1 bg1 rfl rfl) (cl go34 (toHeader) (ac rfl an) ?_))))
  rintro r wt3 ⟨rfl, ct3⟩
  replace bg1 := ct3.b0 bg1
  replace W1 := W1.t ct3
  replace W2 := W2.t ct3
  have hct3 : Ch [] w wt3 := hch.t ct3
  refine cl go35 (impl_EncodeHeader) (ac rfl an) ?_
  rintro r3 wi3 ⟨⟨e3, F3, W3, n3, f3⟩, ci3⟩
  have d3_g1 := old_d f3 bg1.lt
  have x1_3 := x_new W1.lt f3
  have x2_3 := x_new W2.lt f3
  replace f3 := low_t hct3 f3
  replace bg1 := ci3.b0 bg1
  replace W1 := W1.t ci3
  replace W2 := W2.t ci3
  have hci3 : Ch [] w wi3 := hct3.t ci3
  refine r (sa rfl) (re (sq (sq ?_)))
  refine gen (fun ρ => ρ 2 = .bool false ∧ ρ 3 = r1 ∧ ρ 7 = r3 ∧ True) ⟨z2, z3, rfl, trivial⟩ ?_
  rintro ρ ⟨z2, z3, z7, -⟩
  refine rg (r (mv z7) (r (mv z3) (cl go36 (eqByteS W3.R W1.R lx) (ac rfl (ac rfl an)) ?_)))
  rintro r wqb ⟨rfl, cqb⟩
  replace bg1 := cqb.b0 bg1
  replace W1 := W1.t cqb
  replace W2 := W2.t cqb
  replace W3 := W3.t cqb
  have hcqb : Ch [] w wqb := hci3.t cqb
  refine r (nt rfl) (re ?_)
  refine cf ((rfl : _ = Value.bool (!(decide (encHeader q s b = encHeader q s b)))).trans (show Value.bool (!(decide (encHeader q s b = encHeader q s b))) = Value.bool false from by rw [decide_eq_true rfl]; rfl)) ?_
  refine sk (sq (rg (r (sa rfl) (re (rt ?_)))))
  exact fin1 (v := .bool true) Try.results6 rfl ⟨rfl, hcqb⟩
end Go.Proofs.Ytgpcanjmgdmdhaa
