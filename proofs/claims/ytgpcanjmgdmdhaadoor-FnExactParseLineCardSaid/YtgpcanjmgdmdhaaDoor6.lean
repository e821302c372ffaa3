/-
  CONTRACTS 6: rows of bytes; headers. No condition.
-/
import Derived.Test.YtgpcanjmgdmdhaaDoor5
import Derived.Test.YtgpcanjmgdmdhaaDoorMem
namespace Go.Proofs.YtgpcanjmgdmdhaaDoor
open Go Go.Eng
set_option maxRecDepth 100000
set_option maxHeartbeats 4000000
set_option linter.unusedVariables false
theorem take_succ'' {xs : List Int} {k : Nat} (hk : k < xs.length) : xs.take (k + 1) = xs.take k ++ [xs[k]] := List.take_succ_eq_append_getElem hk
theorem l1Copy {w : World} {F : List Nat} {v : Value} {xs : List Int} (hx : u8.R w F v xs) (lx : xs.length ≤ 1000000000) :
    Ret Tryd.prog 93 #[v] w (fun r w' => New u8 5 w w' r xs ∧ Ch [] w w') := by
  refine enter Tryd.func93 rfl Tryd.ntmps93 (by rfl) (by rfl) ?_
  refine sq (rg (r (sa rfl) (re (sq (rg (bs0 Tryd.underlying22 ti5 ?_))))))
  intro v1 w1 N1 c1 s1
  obtain ⟨F1, W1, n1, f1⟩ := N1 u8 rfl
  replace f1 := low_t (Ch.refl [] w) f1
  have hc1 : Ch [] w w1 := (Ch.refl [] w).t c1
  refine r (sa rfl) (re (sq (sq (rg (r (sa rfl) (re (bl ?_)))))))
  refine lp (α := Nat × List Nat × Value) (fun (k, F1, o) ρ w' => ρ 0 = v ∧ ρ 3 = o ∧ ρ 4 = .int .i64 (k : Int) ∧ Ch [] w w' ∧ Kd.W u8 5 w' F1 o (xs.take k) ∧ F1.Nodup ∧ (∀ k, k ∈ F1 → w.heap.size ≤ k) ∧ k ≤ xs.length) (fun (k, F1, o) => xs.length - k) (0, F1, v1) ?_ ?_
  · exact ⟨rfl, rfl, rfl, hc1, W1, n1, f1, by omega⟩
  rintro ⟨k, F1, o⟩ ρ w' ⟨y0, y3, y4, hc, W1, n1, f1, hk⟩
  refine sq (sq (rg (r (mv y4) (r (mv y0) (r (ln Tryd.underlying22 rfl ((hx.t hc))) (r (bi rfl rfl rfl) (re ?_)))))))
  refine cp rfl (fun h => ?_) (fun h => ?_)
  · have hk' : k < xs.length := by omega
    refine sk (sq (bl (rg (r (mv y3) (r (mv y0) (r (mv y4) ?_))))))
    obtain ⟨c15, ad15, k15, e15, p15⟩ := (hx).place k (by omega)
    refine r (ix Tryd.underlying22 ti5 e15 rfl (by omega)) (r (ld Tryd.underlying5 rfl rfl (Ch.cell hc p15.cell)) (ap1 Tryd.underlying22 ti5 rfl (fun _ => rfl) rfl W1 (show Kd.O u8 _ [] (xs[k]) _ from ⟨rfl, rfl⟩) (nodup_nil n1) (by simp; omega) rfl ?_))
    intro _ v18 w18 F18 A18
    have hA18 := A18.hc W1 hc f1
    replace f1 := A18.low hc f1
    replace n1 := A18.nd
    replace W1 := A18.W
    refine r (sa rfl) (re (be ?_))
    refine gen (fun ρ => ρ 0 = v ∧ ρ 3 = v18 ∧ ρ 4 = .int .i64 (k : Int) ∧ True) ⟨y0, rfl, y4, trivial⟩ ?_
    rintro ρ ⟨z0, z3, z4, -⟩
    refine rg (r (mv z4) (r (ad ((k : Int) + 1) rfl rfl (by omega)) (r (sa rfl) (re ?_))))
    rw [← take_succ'' hk'] at W1
    exact ag (k + 1, F18, v18) ⟨z0, z3, rfl, hA18, W1, n1, f1, by omega⟩ (by first | omega | (dsimp only; omega))
  · obtain rfl : k = xs.length := by omega
    rw [List.take_length] at W1
    refine ex rfl (sq (rg (r (mv y3) (r (sa rfl) (re (rt ?_))))))
    exact fin1 (v := o) Tryd.results93 rfl ⟨⟨F1, W1, n1, f1⟩, hc⟩
theorem u8_in {x : Int} (h : 0 ≤ x ∧ x ≤ 255) : IntKind.u8.wrap x = x := by
  unfold IntKind.wrap
  simp only [IntKind.bits, IntKind.signed]
  simp
  omega
/-- The last bytes of a number, the highest first. -/
def big (v : Int) : Nat → List Int
  | 0 => []
  | n + 1 => big (v / 256) n ++ [v % 256]
theorem big_len (v : Int) (n : Nat) : (big v n).length = n := by
  induction n generalizing v with
  | zero => rfl
  | succ n ih => simp [big, ih]
theorem pad_succ {xs : List Int} {j : Nat} : (xs ++ List.replicate j (0 : Int)) ++ [0] = xs ++ List.replicate (j + 1) 0 := by
  rw [List.append_assoc, ← List.replicate_succ']
theorem l2Pad {w : World} {F : List Nat} {v : Value} {xs : List Int} {n : Nat} (hx : u8.R w F v xs) (lx : xs.length ≤ 1000000000) (hn : n ≤ 1000000000) :
    Ret Tryd.prog 54 #[v, .int .i64 (n : Int)] w (fun r w' => New u8 5 w w' r (xs ++ List.replicate (n - xs.length) 0) ∧ Ch [] w w') := by
  refine enter Tryd.func54 rfl Tryd.ntmps54 (by rfl) (by rfl) ?_
  refine sq (rg (r (sa rfl) (re (sq (rg (r (mv rfl) (cl go93 (l1Copy hx lx) (ac rfl an) ?_)))))))
  rintro r1 wa ⟨⟨F1, W1, n1, f1⟩, ca⟩
  replace f1 := low_t (Ch.refl [] w) f1
  have hca : Ch [] w wa := (Ch.refl [] w).t ca
  refine r (sa rfl) (re (sq (bl ?_)))
  refine lp (α := Nat × List Nat × Value) (fun (j, F1, o) ρ w' => ρ 1 = .int .i64 (n : Int) ∧ ρ 5 = o ∧ Ch [] w w' ∧ Kd.W u8 5 w' F1 o (xs ++ List.replicate j 0) ∧ F1.Nodup ∧ (∀ k, k ∈ F1 → w.heap.size ≤ k) ∧ j ≤ n - xs.length) (fun (j, F1, o) => n - xs.length - j) (0, F1, r1) ?_ ?_
  · exact ⟨rfl, rfl, hca, by simpa using W1, n1, f1, by omega⟩
  rintro ⟨j, F1, o⟩ ρ w' ⟨y1, y5, hc, W1, n1, f1, hj⟩
  refine sq (sq (rg (r (mv y5) (r (ln Tryd.underlying22 rfl (W1.R)) (r (mv y1) (r (bi rfl rfl rfl) (re ?_)))))))
  refine cp rfl (fun h => ?_) (fun h => ?_)
  · simp only [List.length_append, List.length_replicate] at h
    refine sk (bl (rg (r (mv y5) (ap1 Tryd.underlying22 ti5 rfl (fun _ => rfl) rfl W1 (show Kd.O u8 _ [] 0 _ from ⟨rfl, rfl⟩) (nodup_nil n1) (by simp; omega) rfl ?_))))
    intro _ v14 w14 F14 A14
    have hA14 := A14.hc W1 hc f1
    replace f1 := A14.low hc f1
    replace n1 := A14.nd
    replace W1 := A14.W
    refine r (sa rfl) (re (be ?_))
    rw [pad_succ] at W1
    exact ag (j + 1, F14, v14) ⟨y1, rfl, hA14, W1, n1, f1, by omega⟩ (by first | omega | (dsimp only; omega))
  · simp only [List.length_append, List.length_replicate] at h
    obtain rfl : j = n - xs.length := by omega
    refine ex rfl (sq (rg (r (mv y5) (r (sa rfl) (re (rt ?_))))))
    exact fin1 (v := o) Tryd.results54 rfl ⟨⟨F1, W1, n1, f1⟩, hc⟩
theorem l2Big {n : Nat} {w : World} {v : Int} (hv : 0 ≤ v ∧ v ≤ 9223372036854775807) (hn : n ≤ 1000) :
    Ret Tryd.prog 55 #[.int .i64 v, .int .i64 (n : Int)] w (fun r w' => New u8 5 w w' r (big v n) ∧ Ch [] w w') := by
  induction n generalizing w v with
  | zero =>
    refine enter Tryd.func55 rfl Tryd.ntmps55 (by rfl) (by rfl) ?_
    refine sq (rg (r (sa rfl) (re (sq (sq (rg (r (mv rfl) (r (bi rfl rfl rfl) (re ?_)))))))))
    refine cp rfl (fun h => ?_) (fun h => ?_)
    · refine sq (rg (bs0 Tryd.underlying22 ti5 ?_))
      intro v1 w1 N1 c1 s1
      obtain ⟨F1, W1, n1, f1⟩ := N1 u8 rfl
      replace f1 := low_t (Ch.refl [] w) f1
      have hc1 : Ch [] w w1 := (Ch.refl [] w).t c1
      refine r (sa rfl) (re (rt ?_))
      exact fin1 (v := v1) Tryd.results55 rfl ⟨⟨F1, W1, n1, f1⟩, hc1⟩
    · exact absurd rfl h
  | succ n ih =>
    refine enter Tryd.func55 rfl Tryd.ntmps55 (by rfl) (by rfl) ?_
    refine sq (rg (r (sa rfl) (re (sq (sq (rg (r (mv rfl) (r (bi rfl rfl rfl) (re ?_)))))))))
    refine cp rfl (fun h => ?_) (fun h => ?_)
    · omega
    · refine sk (sq (rg (r (mv rfl) (r (dv (v / 256) rfl rfl (by rw [Int.tdiv_eq_ediv_of_nonneg (by omega)]; omega)) (r (mv rfl) (r (sb ((n : Int)) rfl rfl (by omega)) (cl go55 (ih (v := v / 256) (by omega) (by omega)) (ac rfl (ac rfl an)) ?_)))))))
      rintro r1 wa ⟨⟨F1, W1, n1, f1⟩, ca⟩
      replace f1 := low_t (Ch.refl [] w) f1
      have hca : Ch [] w wa := (Ch.refl [] w).t ca
      refine r (mv rfl) (r (rm (v % 256) rfl rfl (by rw [Int.tmod_eq_emod_of_nonneg (by omega)]; omega)) (r (cv (v % 256) Tryd.underlying2 Tryd.underlying5 rfl (u8_in (by omega))) (ap1 Tryd.underlying22 ti5 rfl (fun _ => rfl) rfl W1 (show Kd.O u8 _ [] (v % 256) _ from ⟨rfl, rfl⟩) (nodup_nil n1) (by rw [big_len]; omega) rfl ?_)))
      intro _ v17 w17 F17 A17
      have hA17 := A17.hc W1 hca f1
      replace f1 := A17.low hca f1
      replace n1 := A17.nd
      replace W1 := A17.W
      refine r (sa rfl) (re (rt ?_))
      exact fin1 (v := v17) Tryd.results55 rfl ⟨⟨F17, W1, n1, f1⟩, hA17⟩
/-- A header that is good; its bytes. -/
abbrev hdr (q s b : Int) : Prop := 1 ≤ q ∧ q ≤ 1099511627776 ∧ 0 ≤ s ∧ s ≤ 65535 ∧ 0 ≤ b ∧ b ≤ 65535
def encH (q s b : Int) : List Int := big q 8 ++ big s 2 ++ big b 2 ++ List.replicate 44 0 ++ big q 8
def encHeader (q s b : Int) : List Int := if hdr q s b then encH q s b else []
theorem spec_EncodeHeader {w : World} {q s b : Int} : Ret Tryd.prog 24 #[.agg #[.int .i64 q, .int .i64 s, .int .i64 b]] w (fun r w' => New u8 5 w w' r (encHeader q s b) ∧ Ch [] w w') := by
  refine enter Tryd.func24 rfl Tryd.ntmps24 (by rfl) (by rfl) ?_
  refine sq (rg (bx rfl ?_))
  intro g1 wg1 eg1 sg1 bg1 cg1
  have qg1 := le_new (Ch.refl [] w).size eg1
  have hcg1 : Ch [] w wg1 := (Ch.refl [] w).t cg1
  replace bg1 : B wg1 g1 46 ([.int .i64 q, .int .i64 s, .int .i64 b]) := bg1
  refine r (sa rfl) (re (sq (sq (rg (r (fa Tryd.underlying46 rfl ti2 rfl rfl) (r (ldb Tryd.underlying2 rfl rfl bg1 rfl) (r (bi rfl rfl rfl) (r (mv rfl) ?_))))))))
  refine sp 7 rfl (fun h0 => ?_) (fun h0 => ?_)
  · refine gn rfl rfl rfl (gn rfl rfl rfl (gn rfl rfl rfl (r (pk rfl rfl) (r (mv rfl) (gn rfl rfl rfl (gn rfl rfl rfl (gn rfl rfl rfl (r (pk rfl rfl) (r (mv rfl) (gn rfl rfl rfl (gn rfl rfl rfl (gn rfl rfl rfl (r (pk rfl rfl) (r (mv rfl) (gn rfl rfl rfl (gn rfl rfl rfl (gn rfl rfl rfl (r (pk rfl rfl) (r (mv rfl) (gn rfl rfl rfl (gn rfl rfl rfl (gn rfl rfl rfl (r (pk rfl rfl) (re (ct rfl (sq ?_))))))))))))))))))))))))))
    refine gen (fun ρ => ρ 1 = .pointer (some ⟨g1, 0, none⟩) ∧ ρ 2 = .slice none 0 0 ∧ True) ⟨rfl, rfl, trivial⟩ ?_
    rintro ρ ⟨z1, z2, -⟩
    refine rg (bs0 Tryd.underlying22 ti5 ?_)
    intro v1 w1 N1 c1 s1
    obtain ⟨F1, W1, n1, f1⟩ := N1 u8 rfl
    have d1_g1 := old_d f1 bg1.lt
    replace f1 := low_t hcg1 f1
    replace bg1 := c1.b0 bg1
    have hc1 : Ch [] w w1 := hcg1.t c1
    refine r (sa rfl) (re (rt ?_))
    rw [show encHeader q s b = [] from if_neg (by omega)]
    exact fin1 (v := v1) Tryd.results24 rfl ⟨⟨F1, W1, n1, f1⟩, hc1⟩
  · refine gy rfl rfl rfl (r (fa Tryd.underlying46 rfl ti2 rfl rfl) (gy rfl rfl rfl (r (ldb Tryd.underlying2 rfl rfl bg1 rfl) (gy rfl rfl rfl (r (bi rfl rfl rfl) (r (pk rfl rfl) (r (mv rfl) ?_)))))))
    refine sp 12 rfl (fun h1 => ?_) (fun h1 => ?_)
    · refine gn rfl rfl rfl (gn rfl rfl rfl (gn rfl rfl rfl (r (pk rfl rfl) (r (mv rfl) (gn rfl rfl rfl (gn rfl rfl rfl (gn rfl rfl rfl (r (pk rfl rfl) (r (mv rfl) (gn rfl rfl rfl (gn rfl rfl rfl (gn rfl rfl rfl (r (pk rfl rfl) (r (mv rfl) (gn rfl rfl rfl (gn rfl rfl rfl (gn rfl rfl rfl (r (pk rfl rfl) (re (ct rfl (sq ?_)))))))))))))))))))))
      refine gen (fun ρ => ρ 1 = .pointer (some ⟨g1, 0, none⟩) ∧ ρ 2 = .slice none 0 0 ∧ True) ⟨rfl, rfl, trivial⟩ ?_
      rintro ρ ⟨z1, z2, -⟩
      refine rg (bs0 Tryd.underlying22 ti5 ?_)
      intro v1 w1 N1 c1 s1
      obtain ⟨F1, W1, n1, f1⟩ := N1 u8 rfl
      have d1_g1 := old_d f1 bg1.lt
      replace f1 := low_t hcg1 f1
      replace bg1 := c1.b0 bg1
      have hc1 : Ch [] w w1 := hcg1.t c1
      refine r (sa rfl) (re (rt ?_))
      rw [show encHeader q s b = [] from if_neg (by omega)]
      exact fin1 (v := v1) Tryd.results24 rfl ⟨⟨F1, W1, n1, f1⟩, hc1⟩
    · refine gy rfl rfl rfl (r (fa Tryd.underlying46 rfl ti2 rfl rfl) (gy rfl rfl rfl (r (ldb Tryd.underlying2 rfl rfl bg1 rfl) (gy rfl rfl rfl (r (bi rfl rfl rfl) (r (pk rfl rfl) (r (mv rfl) ?_)))))))
      refine sp 17 rfl (fun h2 => ?_) (fun h2 => ?_)
      · refine gn rfl rfl rfl (gn rfl rfl rfl (gn rfl rfl rfl (r (pk rfl rfl) (r (mv rfl) (gn rfl rfl rfl (gn rfl rfl rfl (gn rfl rfl rfl (r (pk rfl rfl) (r (mv rfl) (gn rfl rfl rfl (gn rfl rfl rfl (gn rfl rfl rfl (r (pk rfl rfl) (re (ct rfl (sq ?_))))))))))))))))
        refine gen (fun ρ => ρ 1 = .pointer (some ⟨g1, 0, none⟩) ∧ ρ 2 = .slice none 0 0 ∧ True) ⟨rfl, rfl, trivial⟩ ?_
        rintro ρ ⟨z1, z2, -⟩
        refine rg (bs0 Tryd.underlying22 ti5 ?_)
        intro v1 w1 N1 c1 s1
        obtain ⟨F1, W1, n1, f1⟩ := N1 u8 rfl
        have d1_g1 := old_d f1 bg1.lt
        replace f1 := low_t hcg1 f1
        replace bg1 := c1.b0 bg1
        have hc1 : Ch [] w w1 := hcg1.t c1
        refine r (sa rfl) (re (rt ?_))
        rw [show encHeader q s b = [] from if_neg (by omega)]
        exact fin1 (v := v1) Tryd.results24 rfl ⟨⟨F1, W1, n1, f1⟩, hc1⟩
      · refine gy rfl rfl rfl (r (fa Tryd.underlying46 rfl ti2 rfl rfl) (gy rfl rfl rfl (r (ldb Tryd.underlying2 rfl rfl bg1 rfl) (gy rfl rfl rfl (r (bi rfl rfl rfl) (r (pk rfl rfl) (r (mv rfl) ?_)))))))
        refine sp 22 rfl (fun h3 => ?_) (fun h3 => ?_)
        · refine gn rfl rfl rfl (gn rfl rfl rfl (gn rfl rfl rfl (r (pk rfl rfl) (r (mv rfl) (gn rfl rfl rfl (gn rfl rfl rfl (gn rfl rfl rfl (r (pk rfl rfl) (re (ct rfl (sq ?_)))))))))))
          refine gen (fun ρ => ρ 1 = .pointer (some ⟨g1, 0, none⟩) ∧ ρ 2 = .slice none 0 0 ∧ True) ⟨rfl, rfl, trivial⟩ ?_
          rintro ρ ⟨z1, z2, -⟩
          refine rg (bs0 Tryd.underlying22 ti5 ?_)
          intro v1 w1 N1 c1 s1
          obtain ⟨F1, W1, n1, f1⟩ := N1 u8 rfl
          have d1_g1 := old_d f1 bg1.lt
          replace f1 := low_t hcg1 f1
          replace bg1 := c1.b0 bg1
          have hc1 : Ch [] w w1 := hcg1.t c1
          refine r (sa rfl) (re (rt ?_))
          rw [show encHeader q s b = [] from if_neg (by omega)]
          exact fin1 (v := v1) Tryd.results24 rfl ⟨⟨F1, W1, n1, f1⟩, hc1⟩
        · refine gy rfl rfl rfl (r (fa Tryd.underlying46 rfl ti2 rfl rfl) (gy rfl rfl rfl (r (ldb Tryd.underlying2 rfl rfl bg1 rfl) (gy rfl rfl rfl (r (bi rfl rfl rfl) (r (pk rfl rfl) (r (mv rfl) ?_)))))))
          refine sp 27 rfl (fun h4 => ?_) (fun h4 => ?_)
          · refine gn rfl rfl rfl (gn rfl rfl rfl (gn rfl rfl rfl (r (pk rfl rfl) (re (ct rfl (sq ?_))))))
            refine gen (fun ρ => ρ 1 = .pointer (some ⟨g1, 0, none⟩) ∧ ρ 2 = .slice none 0 0 ∧ True) ⟨rfl, rfl, trivial⟩ ?_
            rintro ρ ⟨z1, z2, -⟩
            refine rg (bs0 Tryd.underlying22 ti5 ?_)
            intro v1 w1 N1 c1 s1
            obtain ⟨F1, W1, n1, f1⟩ := N1 u8 rfl
            have d1_g1 := old_d f1 bg1.lt
            replace f1 := low_t hcg1 f1
            replace bg1 := c1.b0 bg1
            have hc1 : Ch [] w w1 := hcg1.t c1
            refine r (sa rfl) (re (rt ?_))
            rw [show encHeader q s b = [] from if_neg (by omega)]
            exact fin1 (v := v1) Tryd.results24 rfl ⟨⟨F1, W1, n1, f1⟩, hc1⟩
          · refine gy rfl rfl rfl (r (fa Tryd.underlying46 rfl ti2 rfl rfl) (gy rfl rfl rfl (r (ldb Tryd.underlying2 rfl rfl bg1 rfl) (gy rfl rfl rfl (r (bi rfl rfl rfl) (r (pk rfl rfl) (re ?_)))))))
            refine cp rfl (fun hl => ?_) (fun hl => ?_)
            · refine sq ?_
              refine gen (fun ρ => ρ 1 = .pointer (some ⟨g1, 0, none⟩) ∧ ρ 2 = .slice none 0 0 ∧ True) ⟨rfl, rfl, trivial⟩ ?_
              rintro ρ ⟨z1, z2, -⟩
              refine rg (bs0 Tryd.underlying22 ti5 ?_)
              intro v1 w1 N1 c1 s1
              obtain ⟨F1, W1, n1, f1⟩ := N1 u8 rfl
              have d1_g1 := old_d f1 bg1.lt
              replace f1 := low_t hcg1 f1
              replace bg1 := c1.b0 bg1
              have hc1 : Ch [] w w1 := hcg1.t c1
              refine r (sa rfl) (re (rt ?_))
              rw [show encHeader q s b = [] from if_neg (by omega)]
              exact fin1 (v := v1) Tryd.results24 rfl ⟨⟨F1, W1, n1, f1⟩, hc1⟩
            · refine sk (sq ?_)
              refine gen (fun ρ => ρ 1 = .pointer (some ⟨g1, 0, none⟩) ∧ ρ 2 = .slice none 0 0 ∧ True) ⟨rfl, rfl, trivial⟩ ?_
              rintro ρ ⟨z1, z2, -⟩
              refine rdd mixed ?_
              intro wD cD
              replace bg1 := cD.b0 bg1
              have hcD : Ch [] w wD := hcg1.t cD
              have bg1D := bg1
              refine dt 0 rfl (by kernel_rfl) (fa Tryd.underlying46 rfl ti2 rfl z1) (dt 1 rfl (by kernel_rfl) (ldb Tryd.underlying2 rfl rfl bg1 rfl) (dt 3 rfl (by kernel_rfl) (fa Tryd.underlying46 rfl ti2 rfl z1) (dt 4 rfl (by kernel_rfl) (ldb Tryd.underlying2 rfl rfl bg1 rfl) (d1 2 (by kernel_rfl) <| uc rfl go55 (ac rfl (ac rfl an)) (l2Big (n := 8) (by omega) (by omega)) ?_))))
              rintro r1 wr1 ⟨⟨F1, W1, n1, f1⟩, cr1⟩
              have N1 := f1
              have d1_g1 := old_d f1 bg1.lt
              replace f1 := low_t hcD f1
              replace bg1 := cr1.b0 bg1
              have hcr1D := (Ch.refl [] wD).t cr1
              have hcr1 : Ch [] w wr1 := hcD.t cr1
              have fD1 := low_t (Ch.refl [] wD) N1
              refine ⟨hcr1D, ?_⟩
              refine d1 5 (by kernel_rfl) <| uc rfl go55 (ac rfl (ac rfl an)) (l2Big (n := 2) (by omega) (by omega)) ?_
              rintro r2 wr2 ⟨⟨F2, W2, n2, f2⟩, cr2⟩
              have N2 := f2
              have d2_g1 := old_d f2 bg1.lt
              have x1_2 := x_new W1.lt f2
              replace f2 := low_t hcr1 f2
              replace bg1 := cr2.b0 bg1
              replace W1 := W1.t cr2
              have hcr2D := hcr1D.t cr2
              have hcr2 : Ch [] w wr2 := hcr1.t cr2
              have fD2 := low_t hcr1D N2
              refine ⟨hcr2D, ?_⟩
              refine d1 6 (by kernel_rfl) <| uf rfl (aps Tryd.underlying22 ti5 rfl (flat_int _) rfl rfl W1 (W2.R) n1 (by simp [big_len])) ?_
              rintro v39 w39 ⟨F39, A39⟩
              have hA39 := A39.hc W1 hcr2 f1
              have hA39D := A39.hc W1 hcr2D fD1
              replace fD1 := A39.low hcr2D fD1
              have tb := A39.blk W1 d1_g1 bg1
              replace d1_g1 := A39.dis d1_g1 bg1.lt
              replace bg1 := tb
              clear tb
              have tb := A39.row W1 (x_sym x1_2) W2
              have tx := A39.x (x_sym x1_2) W2.lt
              replace W2 := tb
              clear tb
              have x2_1 := tx
              replace f1 := A39.low hcr2 f1
              replace n1 := A39.nd
              replace W1 := A39.W
              refine ⟨hA39D, ?_⟩
              refine dt 7 rfl (by kernel_rfl) (sa rfl) ?_
              refine dd (by kernel_rfl) (fun _ => ?_)
              refine sq (rg (r (mv rfl) (r (fa Tryd.underlying46 rfl ti2 rfl z1) (r (ldb Tryd.underlying2 rfl rfl bg1 rfl) (cl go55 (l2Big (n := 2) (by omega) (by omega)) (ac rfl (ac rfl an)) ?_)))))
              rintro r3 wr3 ⟨⟨F3, W3, n3, f3⟩, cr3⟩
              have d3_g1 := old_d f3 bg1.lt
              have x1_3 := x_new W1.lt f3
              have x2_3 := x_new W2.lt f3
              replace f3 := low_t hA39 f3
              replace bg1 := cr3.b0 bg1
              replace W1 := W1.t cr3
              replace W2 := W2.t cr3
              have hcr3 : Ch [] w wr3 := hA39.t cr3
              refine ef (aps Tryd.underlying22 ti5 rfl (flat_int _) rfl rfl W1 (W3.R) n1 (by simp [big_len])) ?_
              rintro v44 w44 ⟨F44, A44⟩
              have hA44 := A44.hc W1 hcr3 f1
              have tb := A44.blk W1 d1_g1 bg1
              replace d1_g1 := A44.dis d1_g1 bg1.lt
              replace bg1 := tb
              clear tb
              have tb := A44.row W1 x2_1 W2
              have tx := A44.x x2_1 W2.lt
              replace W2 := tb
              clear tb
              replace x2_1 := tx
              clear tx
              have tb := A44.row W1 (x_sym x1_3) W3
              have tx := A44.x (x_sym x1_3) W3.lt
              replace W3 := tb
              clear tb
              have x3_1 := tx
              replace f1 := A44.low hcr3 f1
              replace n1 := A44.nd
              replace W1 := A44.W
              refine r (sa rfl) (re (sq ?_))
              refine gen (fun ρ => ρ 1 = .pointer (some ⟨g1, 0, none⟩) ∧ ρ 2 = .slice none 0 0 ∧ ρ 3 = v44 ∧ True) ⟨z1, z2, rfl, trivial⟩ ?_
              rintro ρ ⟨z1, z2, z3, -⟩
              refine rdd mixed ?_
              intro wD cD
              replace bg1 := cD.b0 bg1
              replace W1 := W1.t cD
              replace W2 := W2.t cD
              replace W3 := W3.t cD
              have hcD : Ch [] w wD := hA44.t cD
              have bg1D := bg1
              have W1D := W1
              have W2D := W2
              have W3D := W3
              refine dt 0 rfl (by kernel_rfl) (mv z3) (dt 2 rfl (by kernel_rfl) (fa Tryd.underlying46 rfl ti2 rfl z1) (dt 3 rfl (by kernel_rfl) (ldb Tryd.underlying2 rfl rfl bg1 rfl) (d1 1 (by kernel_rfl) <| uc rfl go54 (ac rfl (ac rfl an)) (l2Pad (n := 56) W1.R (by simp [big_len]) (by omega)) ?_)))
              rintro r4 wr4 ⟨⟨F4, W4, n4, f4⟩, cr4⟩
              have N4 := f4
              have d4_g1 := old_d f4 bg1.lt
              have x1_4 := x_new W1.lt f4
              have x2_4 := x_new W2.lt f4
              have x3_4 := x_new W3.lt f4
              replace f4 := low_t hcD f4
              replace bg1 := cr4.b0 bg1
              replace W1 := W1.t cr4
              replace W2 := W2.t cr4
              replace W3 := W3.t cr4
              have hcr4D := (Ch.refl [] wD).t cr4
              have hcr4 : Ch [] w wr4 := hcD.t cr4
              have fD4 := low_t (Ch.refl [] wD) N4
              refine ⟨hcr4D, ?_⟩
              refine d1 4 (by kernel_rfl) <| uc rfl go55 (ac rfl (ac rfl an)) (l2Big (n := 8) (by omega) (by omega)) ?_
              rintro r5 wr5 ⟨⟨F5, W5, n5, f5⟩, cr5⟩
              have N5 := f5
              have d5_g1 := old_d f5 bg1.lt
              have x1_5 := x_new W1.lt f5
              have x2_5 := x_new W2.lt f5
              have x3_5 := x_new W3.lt f5
              have x4_5 := x_new W4.lt f5
              replace f5 := low_t hcr4 f5
              replace bg1 := cr5.b0 bg1
              replace W1 := W1.t cr5
              replace W2 := W2.t cr5
              replace W3 := W3.t cr5
              replace W4 := W4.t cr5
              have hcr5D := hcr4D.t cr5
              have hcr5 : Ch [] w wr5 := hcr4.t cr5
              have fD5 := low_t hcr4D N5
              refine ⟨hcr5D, ?_⟩
              refine d1 5 (by kernel_rfl) <| uf rfl (aps Tryd.underlying22 ti5 rfl (flat_int _) rfl rfl W4 (W5.R) n4 (by simp [big_len])) ?_
              rintro v50 w50 ⟨F50, A50⟩
              have hA50 := A50.hc W4 hcr5 f4
              have hA50D := A50.hc W4 hcr5D fD4
              replace fD4 := A50.low hcr5D fD4
              have tb := A50.blk W4 d4_g1 bg1
              replace d4_g1 := A50.dis d4_g1 bg1.lt
              replace bg1 := tb
              clear tb
              have tb := A50.row W4 x1_4 W1
              have tx := A50.x x1_4 W1.lt
              replace W1 := tb
              clear tb
              replace x1_4 := tx
              clear tx
              have tb := A50.row W4 x2_4 W2
              have tx := A50.x x2_4 W2.lt
              replace W2 := tb
              clear tb
              replace x2_4 := tx
              clear tx
              have tb := A50.row W4 x3_4 W3
              have tx := A50.x x3_4 W3.lt
              replace W3 := tb
              clear tb
              replace x3_4 := tx
              clear tx
              have tb := A50.row W4 (x_sym x4_5) W5
              have tx := A50.x (x_sym x4_5) W5.lt
              replace W5 := tb
              clear tb
              have x5_4 := tx
              replace f4 := A50.low hcr5 f4
              replace n4 := A50.nd
              replace W4 := A50.W
              refine ⟨hA50D, ?_⟩
              refine dt 6 rfl (by kernel_rfl) (sa rfl) ?_
              refine dd (by kernel_rfl) (fun _ => ?_)
              refine rt ?_
              rw [show encHeader q s b = encH q s b from if_pos (by omega)]
              exact fin1 (v := v50) Tryd.results24 rfl ⟨⟨F50, W4, n4, f4⟩, hA50⟩
/-! ### The program's way: numbers of so many bytes -/
abbrev knum : Kd (Int × Int) := Kd.flat 2 (fun x => [.int .i64 x.1, .int .i64 x.2]) (by decide) (fun _ => rfl) (fun x u hu => by simp at hu; rcases hu with rfl | rfl <;> rfl)
theorem big_get (v : Int) (n j : Nat) (hj : j < n) : (big v n)[j]? = some (v / 256 ^ (n - 1 - j) % 256) := by
  induction n generalizing v with
  | zero => omega
  | succ n ih =>
    rw [big]
    by_cases h : j < n
    · rw [List.getElem?_append_left (by rw [big_len]; exact h), ih _ h, Int.ediv_ediv_of_nonneg (by omega)]
      congr 3
      rw [show n + 1 - 1 - j = (n - 1 - j) + 1 by omega, Int.pow_succ, Int.mul_comm]
    · obtain rfl : j = n := by omega
      rw [List.getElem?_append_right (by rw [big_len]; omega), big_len]
      simp
theorem big_take (v : Int) (n j : Nat) (hj : j < n) : (big v n).take (j + 1) = (big v n).take j ++ [v / 256 ^ (n - 1 - j) % 256] := by
  have hl : j < (big v n).length := by rw [big_len]; exact hj
  have h := big_get v n j hj
  rw [List.getElem?_eq_getElem hl, Option.some.injEq] at h
  rw [List.take_succ_eq_append_getElem hl, h]
/-- A shift by whole bytes. -/
theorem shr_byte {v : Int} (hv : 0 ≤ v ∧ v ≤ 9223372036854775807) (k : Nat) : (v.fdiv (2 ^ (min (8 * (k : Int)).toNat 64))) = v / 256 ^ k := by
  have e : (8 * (k : Int)).toNat = 8 * k := by omega
  have hp : ∀ m : Nat, (2 : Int) ^ (8 * m) = 256 ^ m := fun m => by rw [Int.pow_mul]; rfl
  rw [e, Int.fdiv_eq_ediv_of_nonneg _ (Int.le_of_lt (Int.pow_pos (by omega)))]
  by_cases h : k ≤ 8
  · rw [Nat.min_eq_left (by omega), hp]
  · rw [Nat.min_eq_right (by omega)]
    have h1 : v / 2 ^ 64 = 0 := Int.ediv_eq_zero_of_lt hv.1 (by omega)
    have h2 : (2 : Int) ^ 64 ≤ 256 ^ k := by
      rw [show (2 : Int) ^ 64 = 256 ^ 8 by rfl]
      exact_mod_cast Nat.pow_le_pow_right (n := 256) (by omega) (show 8 ≤ k by omega)
    rw [h1, Int.ediv_eq_zero_of_lt hv.1 (by omega)]
theorem u8_wrap {x : Int} (h : 0 ≤ x) : IntKind.u8.wrap x = x % 256 := by
  unfold IntKind.wrap
  simp only [IntKind.bits, IntKind.signed]
  simp
def flat (ns : List (Int × Int)) : List Int := ns.flatMap (fun x => big x.2 x.1.toNat)
theorem flat_len {ns : List (Int × Int)} (h : ∀ x, x ∈ ns → x.1 ≤ 100) : (flat ns).length ≤ 100 * ns.length := by
  induction ns with
  | nil => simp [flat]
  | cons x xs ih =>
    have h1 := ih (fun y hy => h y (List.mem_cons_of_mem _ hy))
    have h2 := h x (by simp)
    simp only [flat, List.flatMap_cons, List.length_append, big_len, List.length_cons] at h1 ⊢
    omega
theorem flat_succ {ns : List (Int × Int)} {i : Nat} (hi : i < ns.length) : flat (ns.take (i + 1)) = flat (ns.take i) ++ big ns[i].2 ns[i].1.toNat := by
  rw [List.take_succ_eq_append_getElem hi]
  simp only [flat, List.flatMap_append, List.flatMap_cons, List.flatMap_nil, List.append_nil]
theorem bytesOf {w : World} {F : List Nat} {v : Value} {ns : List (Int × Int)} (hx : knum.R w F v ns) (lx : ns.length ≤ 2000) (hb : ∀ x, x ∈ ns → 0 ≤ x.1 ∧ x.1 ≤ 100 ∧ 0 ≤ x.2 ∧ x.2 ≤ 9223372036854775807) :
    Ret Tryd.prog 58 #[v] w (fun r w' => New u8 5 w w' r (flat ns) ∧ Ch [] w w') := by
  refine enter Tryd.func58 rfl Tryd.ntmps58 (by rfl) (by rfl) ?_
  refine sq (rg (r (sa rfl) (re (sq (rg (r (sa rfl) (re (sq (sq (rg (r (mv rfl) (r (ln Tryd.underlying96 rfl ((hx.t (Ch.refl [] w)))) (r (mv rfl) (re (bl ?_)))))))))))))))
  have W1 := Kd.nil_W u8 5 w
  have n1 : ([] : List Nat).Nodup := List.nodup_nil
  have f1 : ∀ k, k ∈ ([] : List Nat) → w.heap.size ≤ k := by simp
  refine lp (α := Nat × List Nat × Value) (fun (i, F1, o) ρ w' => ρ 7 = v ∧ ρ 8 = .int .i64 (ns.length : Int) ∧ ρ 9 = .int .i64 (i : Int) ∧ ρ 3 = o ∧ Ch [] w w' ∧ Kd.W u8 5 w' F1 o (flat (ns.take i)) ∧ F1.Nodup ∧ (∀ k, k ∈ F1 → w.heap.size ≤ k) ∧ i ≤ ns.length) (fun (i, F1, o) => ns.length - i) (0, [], .slice none 0 0) ?_ ?_
  · exact ⟨rfl, rfl, rfl, rfl, (Ch.refl [] w), W1, n1, f1, by omega⟩
  rintro ⟨i, F1, o⟩ ρ w' ⟨y7, y8, y9, y3, hc, W1, n1, f1, hi⟩
  refine sq (rg (r (bi y9 y8 rfl) (re (sq ?_))))
  refine cp rfl (fun h => ?_) (fun h => ?_)
  · have hi' : i < ns.length := by omega
    have hl := flat_len (ns := ns.take i) (fun x hx => (hb x (List.mem_of_mem_take hx)).2.1)
    rw [List.length_take] at hl
    obtain ⟨hw1, hw2, hv1, hv2⟩ := hb ns[i] (List.getElem_mem hi')
    obtain ⟨m, hm⟩ : ∃ m : Nat, ns[i].1 = (m : Int) := ⟨ns[i].1.toNat, by omega⟩
    have hS := flat_succ hi'
    rw [show ns[i].1.toNat = m by omega] at hS
    have hbl := big_len ns[i].2 m
    refine sk (sq (bl (sq (rg ?_))))
    obtain ⟨c11, ad11, k11, e11, p11⟩ := (hx).place i (by omega)
    have q11 := flat_at p11
    refine r (ix Tryd.underlying96 ti98 (y7.trans e11) y9 (by omega)) (r (la [.int .i64 ((ns[i]).1), .int .i64 ((ns[i]).2)] Tryd.underlying98 rfl ti98 rfl rfl (fun m u h => Ch.cell hc (q11 m u h))) (al ti98 ?_))
    intro g5 wg5 eg5 sg5 bg5 cg5
    have d1_g5 := fresh_d W1.lt eg5
    have qg5 := le_new hc.size eg5
    replace W1 := W1.t cg5
    have hcg5 : Ch [] w wg5 := hc.t cg5
    replace bg5 : B wg5 g5 98 ([.int .i64 0, .int .i64 0]) := bg5
    refine st ti98 rfl rfl bg5 rfl (Nat.le_of_ble_eq_true rfl) (one_all rfl) ?_
    intro wS3g5 sS3g5 bg5 cS3g5
    replace W1 := W1.tt cS3g5 d1_g5
    have hcS3g5 : Ch [] w wS3g5 := hcg5.own cS3g5 qg5
    replace bg5 : B wS3g5 g5 98 ([.int .i64 ((ns[i]).1), .int .i64 ((ns[i]).2)]) := bg5
    refine re (sq (rg (r (fa Tryd.underlying98 rfl ti2 rfl rfl) (r (ldb Tryd.underlying2 rfl rfl bg5 rfl) (r (sb (((ns[i]).1) - 1) rfl rfl (by omega)) (r (sa rfl) (re (bl ?_))))))))
    refine lp (α := Nat × List Nat × Value) (fun (j, F2, o2) ρ w' => ρ 7 = v ∧ ρ 8 = .int .i64 (ns.length : Int) ∧ ρ 9 = .int .i64 (i : Int) ∧ ρ 3 = o2 ∧ ρ 5 = .pointer (some ⟨g5, 0, none⟩) ∧ ρ 6 = .int .i64 ((m : Int) - 1 - (j : Int)) ∧ B w' g5 98 ([.int .i64 (ns[i].1), .int .i64 (ns[i].2)]) ∧ Ch [] w w' ∧ Kd.W u8 5 w' F2 o2 (flat (ns.take i) ++ (big ns[i].2 m).take j) ∧ F2.Nodup ∧ (∀ k, k ∈ F2 → w.heap.size ≤ k) ∧ (∀ k, k ∈ F2 → k ∉ [g5]) ∧ j ≤ m) (fun (j, F2, o2) => m - j) (0, F1, o) ?_ ?_
    · exact ⟨y7, y8, y9, y3, rfl, (show _ = Value.int .i64 (ns[i].1 - 1) from rfl).trans (by rw [hm]; simp), bg5, hcS3g5, (by simpa using W1), n1, f1, d1_g5, by omega⟩
    rintro ⟨j, F2, o2⟩ ρ w' ⟨y7, y8, y9, y3, y5, y6, bg5, hc, W1, n1, f1, d1_g5, hj⟩
    refine sq (sq (rg (r (mv y6) (r (bi rfl rfl rfl) (re ?_)))))
    refine cp rfl (fun hk => ?_) (fun hk => ?_)
    · obtain ⟨q, hq⟩ : ∃ q : Nat, m - 1 - j = q := ⟨_, rfl⟩
      rw [show (m : Int) - 1 - (j : Int) = (q : Int) by omega] at y6
      have hlt : ((big ns[i].2 m).take j).length ≤ 100 := by rw [List.length_take]; omega
      refine sk (sq (bl (rg (r (mv y3) (r (fa Tryd.underlying98 rfl ti2 rfl y5) (r (ldb Tryd.underlying2 rfl rfl bg5 rfl) (r (mv y6) (r (ml (8 * (q : Int)) rfl rfl (by omega)) (r (sr (ns[i].2 / 256 ^ q) rfl rfl (⟨by omega, shr_byte ⟨hv1, hv2⟩ q⟩)) (r (cv (ns[i].2 / 256 ^ q % 256) Tryd.underlying2 Tryd.underlying5 rfl (u8_wrap (Int.ediv_nonneg hv1 (Int.le_of_lt (Int.pow_pos (by omega)))))) (ap1 Tryd.underlying22 ti5 rfl (fun _ => rfl) rfl W1 (show Kd.O u8 _ [] (ns[i].2 / 256 ^ q % 256) _ from ⟨rfl, rfl⟩) (nodup_nil n1) (by simp only [List.length_append]; omega) rfl ?_)))))))))))
      intro _ v28 w28 F28 A28
      have hA28 := A28.hc W1 hc f1
      have tb := A28.blk W1 d1_g5 bg5
      replace d1_g5 := A28.dis d1_g5 bg5.lt
      replace bg5 := tb
      clear tb
      replace f1 := A28.low hc f1
      replace n1 := A28.nd
      replace W1 := A28.W
      refine r (sa rfl) (re (be ?_))
      refine gen (fun ρ => ρ 3 = v28 ∧ ρ 5 = .pointer (some ⟨g5, 0, none⟩) ∧ ρ 6 = .int .i64 (q : Int) ∧ ρ 7 = v ∧ ρ 8 = .int .i64 (ns.length : Int) ∧ ρ 9 = .int .i64 (i : Int) ∧ True) ⟨rfl, y5, y6, y7, y8, y9, trivial⟩ ?_
      rintro ρ ⟨z3, z5, z6, z7, z8, z9, -⟩
      refine rg (r (mv z6) (r (sb ((q : Int) - 1) rfl rfl (by omega)) (r (sa rfl) (re ?_))))
      rw [List.append_assoc, ← hq, ← big_take _ _ _ (by omega)] at W1
      refine ag (j + 1, F28, v28) ⟨z7, z8, z9, z3, z5, (show _ = Value.int .i64 ((q : Int) - 1) from rfl).trans (by congr 1; omega), bg5, hA28, W1, n1, f1, d1_g5, by omega⟩ (by dsimp only; omega)
    · obtain rfl : j = m := by omega
      rw [show (big ns[i].2 j).take j = big ns[i].2 j from List.take_of_length_le (by omega), ← hS] at W1
      refine ex rfl (be (rg (r (ad ((i : Int) + 1) y9 rfl (by omega)) (r (mv rfl) (re ?_)))))
      exact ag (i + 1, F2, o2) ⟨y7, y8, rfl, y3, hc, W1, n1, f1, by omega⟩ (by first | omega | (dsimp only; omega))
  · obtain rfl : i = ns.length := by omega
    rw [List.take_length] at W1
    refine ex rfl (sq (rg (r (mv y3) (r (sa rfl) (re (rt ?_))))))
    exact fin1 (v := o) Tryd.results58 rfl ⟨⟨F1, W1, n1, f1⟩, hc⟩
end Go.Proofs.YtgpcanjmgdmdhaaDoor
