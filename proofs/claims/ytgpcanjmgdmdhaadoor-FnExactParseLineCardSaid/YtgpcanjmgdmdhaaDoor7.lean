/-
  CONTRACTS 7: the program's headers; the laws' marks; the law on EncodeHeader. No condition.
-/
import Derived.Test.YtgpcanjmgdmdhaaDoor6
namespace Go.Proofs.YtgpcanjmgdmdhaaDoor
open Go Go.Eng
set_option maxRecDepth 100000
set_option maxHeartbeats 4000000
set_option linter.unusedVariables false
theorem Header_valid {w : World} {q s b : Int} : Ret Tryd.prog 61 #[.agg #[.int .i64 q, .int .i64 s, .int .i64 b]] w (fun r w' => r = .bool (decide (hdr q s b)) ∧ Ch [] w w') := by
  refine enter Tryd.func61 rfl Tryd.ntmps61 (by rfl) (by rfl) ?_
  refine sq (rg (bx rfl ?_))
  intro g1 wg1 eg1 sg1 bg1 cg1
  have qg1 := le_new (Ch.refl [] w).size eg1
  have hcg1 : Ch [] w wg1 := (Ch.refl [] w).t cg1
  replace bg1 : B wg1 g1 46 ([.int .i64 q, .int .i64 s, .int .i64 b]) := bg1
  refine r (sa rfl) (re (sq (rg (r (fa Tryd.underlying46 rfl ti2 rfl rfl) (r (ldb Tryd.underlying2 rfl rfl bg1 rfl) (r (bi rfl rfl rfl) (r (mv rfl) ?_)))))))
  refine sp 6 rfl (fun h0 => ?_) (fun h0 => ?_)
  · refine gy rfl rfl rfl (r (fa Tryd.underlying46 rfl ti2 rfl rfl) (gy rfl rfl rfl (r (ldb Tryd.underlying2 rfl rfl bg1 rfl) (gy rfl rfl rfl (r (bi rfl rfl rfl) (r (pk rfl rfl) (r (mv rfl) ?_)))))))
    refine sp 11 rfl (fun h1 => ?_) (fun h1 => ?_)
    · refine gy rfl rfl rfl (r (fa Tryd.underlying46 rfl ti2 rfl rfl) (gy rfl rfl rfl (r (ldb Tryd.underlying2 rfl rfl bg1 rfl) (gy rfl rfl rfl (r (bi rfl rfl rfl) (r (pk rfl rfl) (r (mv rfl) ?_)))))))
      refine sp 16 rfl (fun h2 => ?_) (fun h2 => ?_)
      · refine gy rfl rfl rfl (r (fa Tryd.underlying46 rfl ti2 rfl rfl) (gy rfl rfl rfl (r (ldb Tryd.underlying2 rfl rfl bg1 rfl) (gy rfl rfl rfl (r (bi rfl rfl rfl) (r (pk rfl rfl) (r (mv rfl) ?_)))))))
        refine sp 21 rfl (fun h3 => ?_) (fun h3 => ?_)
        · refine gy rfl rfl rfl (r (fa Tryd.underlying46 rfl ti2 rfl rfl) (gy rfl rfl rfl (r (ldb Tryd.underlying2 rfl rfl bg1 rfl) (gy rfl rfl rfl (r (bi rfl rfl rfl) (r (pk rfl rfl) (r (mv rfl) ?_)))))))
          refine sp 26 rfl (fun h4 => ?_) (fun h4 => ?_)
          · refine gy rfl rfl rfl (r (fa Tryd.underlying46 rfl ti2 rfl rfl) (gy rfl rfl rfl (r (ldb Tryd.underlying2 rfl rfl bg1 rfl) (gy rfl rfl rfl (r (bi rfl rfl rfl) (r (pk rfl rfl) (r (sa rfl) (re (rt ?_)))))))))
            exact fin1 (v := .bool (decide (b ≤ 65535))) Tryd.results61 rfl ⟨congrArg Value.bool (decide_eq_decide.2 (by omega)), hcg1⟩
          · refine gn rfl rfl rfl (gn rfl rfl rfl (gn rfl rfl rfl (r (pk rfl rfl) (r (sa rfl) (re (rt ?_))))))
            exact fin1 (v := .bool false) Tryd.results61 rfl ⟨congrArg Value.bool ((decide_eq_false (by omega)).symm), hcg1⟩
        · refine gn rfl rfl rfl (gn rfl rfl rfl (gn rfl rfl rfl (r (pk rfl rfl) (r (mv rfl) (gn rfl rfl rfl (gn rfl rfl rfl (gn rfl rfl rfl (r (pk rfl rfl) (r (sa rfl) (re (rt ?_)))))))))))
          exact fin1 (v := .bool false) Tryd.results61 rfl ⟨congrArg Value.bool ((decide_eq_false (by omega)).symm), hcg1⟩
      · refine gn rfl rfl rfl (gn rfl rfl rfl (gn rfl rfl rfl (r (pk rfl rfl) (r (mv rfl) (gn rfl rfl rfl (gn rfl rfl rfl (gn rfl rfl rfl (r (pk rfl rfl) (r (mv rfl) (gn rfl rfl rfl (gn rfl rfl rfl (gn rfl rfl rfl (r (pk rfl rfl) (r (sa rfl) (re (rt ?_))))))))))))))))
        exact fin1 (v := .bool false) Tryd.results61 rfl ⟨congrArg Value.bool ((decide_eq_false (by omega)).symm), hcg1⟩
    · refine gn rfl rfl rfl (gn rfl rfl rfl (gn rfl rfl rfl (r (pk rfl rfl) (r (mv rfl) (gn rfl rfl rfl (gn rfl rfl rfl (gn rfl rfl rfl (r (pk rfl rfl) (r (mv rfl) (gn rfl rfl rfl (gn rfl rfl rfl (gn rfl rfl rfl (r (pk rfl rfl) (r (mv rfl) (gn rfl rfl rfl (gn rfl rfl rfl (gn rfl rfl rfl (r (pk rfl rfl) (r (sa rfl) (re (rt ?_)))))))))))))))))))))
      exact fin1 (v := .bool false) Tryd.results61 rfl ⟨congrArg Value.bool ((decide_eq_false (by omega)).symm), hcg1⟩
  · refine gn rfl rfl rfl (gn rfl rfl rfl (gn rfl rfl rfl (r (pk rfl rfl) (r (mv rfl) (gn rfl rfl rfl (gn rfl rfl rfl (gn rfl rfl rfl (r (pk rfl rfl) (r (mv rfl) (gn rfl rfl rfl (gn rfl rfl rfl (gn rfl rfl rfl (r (pk rfl rfl) (r (mv rfl) (gn rfl rfl rfl (gn rfl rfl rfl (gn rfl rfl rfl (r (pk rfl rfl) (r (mv rfl) (gn rfl rfl rfl (gn rfl rfl rfl (gn rfl rfl rfl (r (pk rfl rfl) (r (sa rfl) (re (rt ?_))))))))))))))))))))))))))
    exact fin1 (v := .bool false) Tryd.results61 rfl ⟨congrArg Value.bool ((decide_eq_false (by omega)).symm), hcg1⟩
theorem big_zero (n : Nat) : big 0 n = List.replicate n 0 := by
  induction n with
  | zero => rfl
  | succ n ih => rw [big, show (0 : Int) / 256 = 0 by rfl, ih, show (0 : Int) % 256 = 0 by rfl, ← List.replicate_succ']
theorem encH_flat (q s b : Int) : flat [(8, q), (2, s), (2, b), (44, 0), (8, q)] = encH q s b := by
  have h := big_zero 44
  simp only [flat, List.flatMap_cons, List.flatMap_nil, List.append_nil, encH, List.append_assoc]
  show big q 8 ++ (big s 2 ++ (big b 2 ++ (big 0 44 ++ big q 8))) = _
  rw [h]
theorem encH_len (q s b : Int) : (encH q s b).length = 64 := by simp [encH, big_len]
theorem Header_block {w : World} {q s b : Int} (h : hdr q s b) : Ret Tryd.prog 62 #[.agg #[.int .i64 q, .int .i64 s, .int .i64 b]] w (fun r w' => r = .agg (byts (encH q s b)).toArray ∧ Ch [] w w') := by
  refine enter Tryd.func62 rfl Tryd.ntmps62 (by rfl) (by rfl) ?_
  refine sq (rg (bx rfl ?_))
  intro g1 wg1 eg1 sg1 bg1 cg1
  have qg1 := le_new (Ch.refl [] w).size eg1
  have hcg1 : Ch [] w wg1 := (Ch.refl [] w).t cg1
  replace bg1 : B wg1 g1 46 ([.int .i64 q, .int .i64 s, .int .i64 b]) := bg1
  refine al ti85 ?_
  intro g2 wg2 eg2 sg2 bg2 cg2
  have ng1_g2 := ne_new bg1.lt eg2
  have qg2 := le_new hcg1.size eg2
  replace bg1 := cg2.b0 bg1
  have hcg2 : Ch [] w wg2 := hcg1.t cg2
  replace bg2 : B wg2 g2 85 (byts (List.replicate 64 0)) := bg2
  refine re (sq (rg (r (fa Tryd.underlying46 rfl ti2 rfl rfl) (r (ldb Tryd.underlying2 rfl rfl bg1 rfl) (r (bd (r := [.int .i64 8, .int .i64 q]) ti98 pl98 (pc rfl (cel1 rfl) (pc rfl (cel1 rfl) pn)) rfl) (r (fa Tryd.underlying46 rfl ti2 rfl rfl) (r (ldb Tryd.underlying2 rfl rfl bg1 rfl) (r (bd (r := [.int .i64 2, .int .i64 s]) ti98 pl98 (pc rfl (cel1 rfl) (pc rfl (cel1 rfl) pn)) rfl) (r (fa Tryd.underlying46 rfl ti2 rfl rfl) (r (ldb Tryd.underlying2 rfl rfl bg1 rfl) (r (bd (r := [.int .i64 2, .int .i64 b]) ti98 pl98 (pc rfl (cel1 rfl) (pc rfl (cel1 rfl) pn)) rfl) (r (bd (r := [.int .i64 44, .int .i64 0]) ti98 pl98 (pc rfl (cel1 rfl) (pc rfl (cel1 rfl) pn)) rfl) (r (fa Tryd.underlying46 rfl ti2 rfl rfl) (r (ldb Tryd.underlying2 rfl rfl bg1 rfl) (r (bd (r := [.int .i64 8, .int .i64 q]) ti98 pl98 (pc rfl (cel1 rfl) (pc rfl (cel1 rfl) pn)) rfl) (ef (bsm (cs := [.int .i64 8, .int .i64 q, .int .i64 2, .int .i64 s, .int .i64 2, .int .i64 b, .int .i64 44, .int .i64 0, .int .i64 8, .int .i64 q]) Tryd.underlying96 ti98 rfl (by rfl) (pc rfl rfl (pc rfl rfl (pc rfl rfl (pc rfl rfl (pc rfl rfl pn))))) rfl) ?_))))))))))))))))
  rintro _ wg16 ⟨g16, eg16, rfl, sg16, bg16, cg16⟩
  have ng1_g16 := ne_new bg1.lt eg16
  have ng2_g16 := ne_new bg2.lt eg16
  have qg16 := le_new hcg2.size eg16
  replace bg1 := cg16.b0 bg1
  replace bg2 := cg16.b0 bg2
  have hcg16 : Ch [] w wg16 := hcg2.t cg16
  replace bg16 : B wg16 g16 98 ([.int .i64 8, .int .i64 q, .int .i64 2, .int .i64 s, .int .i64 2, .int .i64 b, .int .i64 44, .int .i64 0, .int .i64 8, .int .i64 q]) := bg16
  refine cl go58 (bytesOf (ns := [(8, q), (2, s), (2, b), (44, 0), (8, q)]) ((row_of_B (dk := knum) (xs := [(8, q), (2, s), (2, b), (44, 0), (8, q)]) bg16 (els_flat [(8, q), (2, s), (2, b), (44, 0), (8, q)]) (Nat.le_of_ble_eq_true rfl)).R) (by simp) (by simp; omega)) (ac rfl an) ?_
  rintro r1 wr ⟨⟨F1, W1, n1, f1⟩, cr⟩
  rw [encH_flat] at W1
  have d1_g1 := old_d f1 bg1.lt
  have d1_g2 := old_d f1 bg2.lt
  have d1_g16 := old_d f1 bg16.lt
  replace f1 := low_t hcg16 f1
  replace bg1 := cr.b0 bg1
  replace bg2 := cr.b0 bg2
  replace bg16 := cr.b0 bg16
  have hcr : Ch [] w wr := hcg16.t cr
  obtain ⟨pz, cz, ez, hz⟩ := W1.R.ints (by rw [encH_len]; decide)
  refine r (s2a Tryd.underlying85 (Eq.trans rfl ez) (by rw [encH_len]; exact Nat.le_refl _)) (r (la (byts (encH q s b)) Tryd.underlying85 rfl ti85 rfl (by simp [byts, encH_len]) hz) (sta ti85 rfl rfl (encH_len q s b) bg2 (by simp) ?_))
  intro wS17g2 sS17g2 bg2 cS17g2
  replace bg1 := cS17g2.b bg1 (nin1 ng1_g2)
  replace bg16 := cS17g2.b bg16 (nin1 ng2_g16.symm)
  replace W1 := W1.tt cS17g2 d1_g2
  have hcS17g2 : Ch [] w wS17g2 := hcr.own cS17g2 qg2
  refine re (rt ?_)
  exact finc  (cs := byts (encH q s b)) Tryd.results62 Tryd.underlying85 rfl ti85 rfl bg2 (by simp [byts, (encH_len q s b)])  ⟨rfl, hcS17g2⟩
theorem impl_EncodeHeader {w : World} {q s b : Int} : Ret Tryd.prog 23 #[.agg #[.int .i64 q, .int .i64 s, .int .i64 b]] w (fun r w' => (∃ e, New u8 e w w' r (encHeader q s b)) ∧ Ch [] w w') := by
  refine enter Tryd.func23 rfl Tryd.ntmps23 (by rfl) (by rfl) ?_
  refine sq (rg (bx rfl ?_))
  intro g1 wg1 eg1 sg1 bg1 cg1
  have qg1 := le_new (Ch.refl [] w).size eg1
  have hcg1 : Ch [] w wg1 := (Ch.refl [] w).t cg1
  replace bg1 : B wg1 g1 46 ([.int .i64 q, .int .i64 s, .int .i64 b]) := bg1
  refine r (sa rfl) (re (sq (sq (rg (r (lab [.int .i64 q, .int .i64 s, .int .i64 b] Tryd.underlying46 rfl ti46 rfl bg1 rfl rfl) (cl go61 (Header_valid) (ac rfl an) ?_))))))
  rintro r wa ⟨rfl, ca⟩
  replace bg1 := ca.b0 bg1
  have hca : Ch [] w wa := hcg1.t ca
  refine r (nt rfl) (re ?_)
  refine cpn rfl (fun h => ?_) (fun h => ?_)
  · rw [show encHeader q s b = [] from if_neg h]
    refine sq (rg (r (sa rfl) (re (rt ?_))))
    exact fin1 (v := .slice none 0 0) Tryd.results23 rfl ⟨⟨5, [], Kd.nil_W _ _ _, List.nodup_nil, by simp⟩, hca⟩
  · rw [show encHeader q s b = encH q s b from if_pos h]
    refine sk (sq (rg (r (lab [.int .i64 q, .int .i64 s, .int .i64 b] Tryd.underlying46 rfl ti46 rfl bg1 rfl rfl) (cl go62 (Header_block h) (ac rfl an) ?_))))
    rintro r wb ⟨rfl, cb⟩
    replace bg1 := cb.b0 bg1
    have hcb : Ch [] w wb := hca.t cb
    refine al ti85 ?_
    intro g3 wg3 eg3 sg3 bg3 cg3
    have ng1_g3 := ne_new bg1.lt eg3
    have qg3 := le_new hcb.size eg3
    replace bg1 := cg3.b0 bg1
    have hcg3 : Ch [] w wg3 := hcb.t cg3
    replace bg3 : B wg3 g3 85 (byts (List.replicate 64 0)) := bg3
    refine sta ti85 rfl rfl (encH_len q s b) bg3 (by simp) ?_
    intro wS3g3 sS3g3 bg3 cS3g3
    replace bg1 := cS3g3.b bg1 (nin1 ng1_g3)
    have hcS3g3 : Ch [] w wS3g3 := hcg3.own cS3g3 qg3
    refine re (sq (rg (r (sla Tryd.underlying85 ti5 rfl) (r (sa rfl) (re (rt ?_))))))
    exact fin1 (v := .slice (some ⟨g3, 0, none⟩) 64 64) Tryd.results23 rfl ⟨⟨_, [g3], row_of_arr bg3 (encH_len q s b) (by decide), by simp, by simp; exact qg3⟩, hcS3g3⟩
/-! ### The laws' marks -/
def marks (k : Int) (n : Nat) : List Int := (List.range n).map (fun i : Nat => IntKind.u8.wrap (k + (i : Int)))
theorem marks_len (k : Int) (n : Nat) : (marks k n).length = n := by simp [marks]
theorem marks_get (k : Int) (n i : Nat) (h : i < (marks k n).length) : (marks k n)[i] = IntKind.u8.wrap (k + (i : Int)) := by simp [marks]
theorem marks_set {xs : List Int} {k : Int} {i : Nat} (hi : i < xs.length) : (marks k i ++ xs.drop i).set i (IntKind.u8.wrap (k + (i : Int))) = marks k (i + 1) ++ xs.drop (i + 1) := by
  rw [List.set_append_right _ _ (by rw [marks_len]; exact Nat.le_refl _), marks_len, Nat.sub_self, List.drop_eq_getElem_cons hi, List.set_cons_zero]
  simp [marks, List.range_succ]
theorem markByteS {w : World} {F : List Nat} {v : Value} {xs : List Int} {k : Int} {e : TypeId} (hW : u8.W e w F v xs) (hn : F.Nodup) (hk : 0 ≤ k ∧ k ≤ 1000000000000) (lx : xs.length ≤ 1000000000) :
    Ret Tryd.prog 12 #[v, .int .i64 k] w (fun r w' => r = .int .i64 (k + xs.length) ∧ ∃ F', Apd u8 e w w' F [] F' v v (marks k xs.length)) := by
  refine enter Tryd.func12 rfl Tryd.ntmps12 (by rfl) (by rfl) ?_
  refine sq (rg (r (sa rfl) (re (sq (sq (rg (r (sa rfl) (re (bl ?_)))))))))
  refine lp (α := Nat × List Nat) (fun (i, G) ρ w' => ρ 0 = v ∧ ρ 1 = .int .i64 (k + (i : Int)) ∧ ρ 5 = .int .i64 (i : Int) ∧ i ≤ xs.length ∧ Apd u8 e w w' F [] G v v (marks k i ++ xs.drop i)) (fun (i, G) => xs.length - i) (0, F) ?_ ?_
  · exact ⟨rfl, (show _ = Value.int .i64 k from rfl).trans (by simp), rfl, ⟨by omega, Apd.refl hW hn⟩⟩
  rintro ⟨i, G⟩ ρ w' ⟨y0, y1, y5, hi, A⟩
  have hl : (marks k i ++ xs.drop i).length = xs.length := by simp [marks_len]; omega
  refine sq (sq (rg (r (mv y5) (r (mv y0) (r (ln Tryd.underlying22 rfl (A.W.R)) (r (bi rfl rfl rfl) (re ?_)))))))
  refine cp rfl (fun h => ?_) (fun h => ?_)
  · rw [hl] at h
    have hi' : i < xs.length := by omega
    refine sk (sq (bl (sq (rg (r (mv y0) (r (mv y5) (r (mv y1) (r (cv (IntKind.u8.wrap (k + (i : Int))) Tryd.underlying3 Tryd.underlying5 rfl rfl) (ixs (a := IntKind.u8.wrap (k + (i : Int))) Tryd.underlying22 ti5 rfl A.W rfl (by rw [hl]; exact hi') (fun _ => rfl) ⟨rfl, rfl⟩ (nodup_nil A.nd) ?_)))))))))
    intro _ ws Fs ss As
    refine re (rg (r (mv y1) (r (ad (k + ((i + 1 : Nat) : Int)) rfl rfl (by omega)) (r (sa rfl) (re (be (rg (r (mv y5) (r (ad (((i + 1 : Nat) : Int)) rfl rfl (by omega)) (r (sa rfl) (re ?_)))))))))))
    rw [marks_set hi'] at As
    exact ag (i + 1, Fs) ⟨y0, rfl, rfl, ⟨by omega, A.tr As⟩⟩ (by first | omega | (dsimp only; omega))
  · rw [hl] at h
    obtain rfl : i = xs.length := by omega
    refine ex rfl (sq (rg (r (mv y1) (r (sa rfl) (re (rt ?_))))))
    exact fin1 (v := .int .i64 (k + xs.length)) Tryd.results12 rfl ⟨rfl, G, by simpa using A⟩
theorem encHeader_len (q s b : Int) : (encHeader q s b).length ≤ 64 := by
  unfold encHeader; split
  · rw [encH_len]; exact Nat.le_refl _
  · simp
end Go.Proofs.YtgpcanjmgdmdhaaDoor
