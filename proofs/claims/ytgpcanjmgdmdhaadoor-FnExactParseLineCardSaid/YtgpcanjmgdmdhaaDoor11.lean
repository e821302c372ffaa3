/-
  CONTRACTS 11: EncodeTable. No condition.
-/
import Derived.Test.YtgpcanjmgdmdhaaDoor10
namespace Go.Proofs.YtgpcanjmgdmdhaaDoor
open Go Go.Eng
set_option maxRecDepth 100000
set_option maxHeartbeats 4000000
set_option linter.unusedVariables false
abbrev ent (x : Int × Bool) : Prop := 0 ≤ x.1 ∧ x.1 ≤ 32767 ∧ (0 < x.1 ∨ x.2 = false)
/-- An entry as a number. -/
def entV (x : Int × Bool) : Int := if x.2 = true then x.1 + 32768 else x.1
def tabB (xs : List (Int × Bool)) : List Int := xs.flatMap (fun x => big (entV x) 2)
def encTable (xs : List (Int × Bool)) : List Int := if xs.length ≤ 1024 ∧ ∀ x, x ∈ xs → ent x then tabB xs else []
theorem tabB_len (xs : List (Int × Bool)) : (tabB xs).length = 2 * xs.length := by
  induction xs with
  | nil => rfl
  | cons x xs ih => simp only [tabB, List.flatMap_cons, List.length_append, big_len, List.length_cons] at ih ⊢; omega
theorem tabB_succ {xs : List (Int × Bool)} {k : Nat} (hk : k < xs.length) : tabB (xs.take (k + 1)) = tabB (xs.take k) ++ big (entV xs[k]) 2 := by
  rw [List.take_succ_eq_append_getElem hk]
  simp only [tabB, List.flatMap_append, List.flatMap_cons, List.flatMap_nil, List.append_nil]
theorem all_take {xs : List (Int × Bool)} {k : Nat} (hk : k < xs.length) (h : ∀ x, x ∈ xs.take k → ent x) (h' : ent xs[k]) : ∀ x, x ∈ xs.take (k + 1) → ent x := by
  rw [List.take_succ_eq_append_getElem hk]
  intro x hx
  rcases List.mem_append.1 hx with hx | hx
  · exact h x hx
  · rw [List.mem_singleton.1 hx]; exact h'
theorem l2ValidEntry {w : World} {x : Int × Bool} : Ret Tryd.prog 59 #[.agg #[.int .i64 x.1, .bool x.2]] w (fun r w' => r = .bool (decide (ent x)) ∧ Ch [] w w') := by
  refine enter Tryd.func59 rfl Tryd.ntmps59 (by rfl) (by rfl) ?_
  refine sq (rg (bx rfl ?_))
  intro g1 wg1 eg1 sg1 bg1 cg1
  have qg1 := le_new (Ch.refl [] w).size eg1
  have hcg1 : Ch [] w wg1 := (Ch.refl [] w).t cg1
  replace bg1 : B wg1 g1 44 ([.int .i64 x.1, .bool x.2]) := bg1
  refine r (sa rfl) (re (sq (rg (r (fa Tryd.underlying44 rfl ti2 rfl rfl) (r (ldb Tryd.underlying2 rfl rfl bg1 rfl) (r (bi rfl rfl rfl) (r (mv rfl) ?_)))))))
  refine sp 6 rfl (fun h0 => ?_) (fun h0 => ?_)
  · refine gy rfl rfl rfl (r (fa Tryd.underlying44 rfl ti2 rfl rfl) (gy rfl rfl rfl (r (ldb Tryd.underlying2 rfl rfl bg1 rfl) (gy rfl rfl rfl (r (bi rfl rfl rfl) (r (pk rfl rfl) (r (mv rfl) ?_)))))))
    refine sp 11 rfl (fun h1 => ?_) (fun h1 => ?_)
    · refine gy rfl rfl rfl (r (fa Tryd.underlying44 rfl ti2 rfl rfl) (gy rfl rfl rfl (r (ldb Tryd.underlying2 rfl rfl bg1 rfl) (gy rfl rfl rfl (r (bi rfl rfl rfl) (gy rfl rfl rfl (r (mv rfl) ?_)))))))
      refine sp 15 rfl (fun h2 => ?_) (fun h2 => ?_)
      · refine gn rfl rfl rfl (gn rfl rfl rfl (gn rfl rfl rfl (gy rfl rfl rfl (r (pk rfl rfl) (r (pk rfl rfl) (r (sa rfl) (re (rt ?_))))))))
        exact fin1 (v := .bool true) Tryd.results59 rfl ⟨congrArg Value.bool (by rw [Bool.eq_iff_iff, decide_eq_true_iff]; cases hb : x.2 <;> simp [ent, hb] <;> omega), hcg1⟩
      · refine gy rfl rfl rfl (r (fa Tryd.underlying44 rfl ti4 rfl rfl) (gy rfl rfl rfl (r (ldb Tryd.underlying4 rfl rfl bg1 rfl) (gy rfl rfl rfl (r (nt rfl) (gy rfl rfl rfl (r (pk rfl rfl) (r (pk rfl rfl) (r (sa rfl) (re (rt ?_)))))))))))
        exact fin1 (v := .bool (!x.2)) Tryd.results59 rfl ⟨congrArg Value.bool (by rw [Bool.eq_iff_iff, decide_eq_true_iff]; cases hb : x.2 <;> simp [ent, hb] <;> omega), hcg1⟩
    · refine gn rfl rfl rfl (gn rfl rfl rfl (gn rfl rfl rfl (gn rfl rfl rfl (gu rfl rfl rfl (gu rfl rfl rfl (gu rfl rfl rfl (gn rfl rfl rfl (r (pk rfl rfl) (r (sa rfl) (re (rt ?_)))))))))))
      exact fin1 (v := .bool false) Tryd.results59 rfl ⟨congrArg Value.bool (by rw [Bool.eq_iff_iff, decide_eq_true_iff]; cases hb : x.2 <;> simp [ent, hb] <;> omega), hcg1⟩
  · refine gn rfl rfl rfl (gn rfl rfl rfl (gn rfl rfl rfl (r (pk rfl rfl) (r (mv rfl) (gn rfl rfl rfl (gn rfl rfl rfl (gn rfl rfl rfl (gn rfl rfl rfl (gu rfl rfl rfl (gu rfl rfl rfl (gu rfl rfl rfl (gn rfl rfl rfl (r (pk rfl rfl) (r (sa rfl) (re (rt ?_))))))))))))))))
    exact fin1 (v := .bool false) Tryd.results59 rfl ⟨congrArg Value.bool (by rw [Bool.eq_iff_iff, decide_eq_true_iff]; cases hb : x.2 <;> simp [ent, hb] <;> omega), hcg1⟩
theorem Entry_valid {w : World} {x : Int × Bool} : Ret Tryd.prog 57 #[.agg #[.int .i64 x.1, .bool x.2]] w (fun r w' => r = .bool (decide (ent x)) ∧ Ch [] w w') := by
  refine enter Tryd.func57 rfl Tryd.ntmps57 (by rfl) (by rfl) ?_
  refine sq (rg (bx rfl ?_))
  intro g1 wg1 eg1 sg1 bg1 cg1
  have qg1 := le_new (Ch.refl [] w).size eg1
  have hcg1 : Ch [] w wg1 := (Ch.refl [] w).t cg1
  replace bg1 : B wg1 g1 44 ([.int .i64 x.1, .bool x.2]) := bg1
  refine r (sa rfl) (re (sq (rg (r (fa Tryd.underlying44 rfl ti2 rfl rfl) (r (ldb Tryd.underlying2 rfl rfl bg1 rfl) (r (bi rfl rfl rfl) (r (mv rfl) ?_)))))))
  refine sp 6 rfl (fun h0 => ?_) (fun h0 => ?_)
  · refine gy rfl rfl rfl (r (fa Tryd.underlying44 rfl ti2 rfl rfl) (gy rfl rfl rfl (r (ldb Tryd.underlying2 rfl rfl bg1 rfl) (gy rfl rfl rfl (r (bi rfl rfl rfl) (r (pk rfl rfl) (r (mv rfl) ?_)))))))
    refine sp 11 rfl (fun h1 => ?_) (fun h1 => ?_)
    · refine gy rfl rfl rfl (r (fa Tryd.underlying44 rfl ti2 rfl rfl) (gy rfl rfl rfl (r (ldb Tryd.underlying2 rfl rfl bg1 rfl) (gy rfl rfl rfl (r (bi rfl rfl rfl) (gy rfl rfl rfl (r (mv rfl) ?_)))))))
      refine sp 15 rfl (fun h2 => ?_) (fun h2 => ?_)
      · refine gn rfl rfl rfl (gn rfl rfl rfl (gn rfl rfl rfl (gy rfl rfl rfl (r (pk rfl rfl) (r (pk rfl rfl) (r (sa rfl) (re (rt ?_))))))))
        exact fin1 (v := .bool true) Tryd.results57 rfl ⟨congrArg Value.bool (by rw [Bool.eq_iff_iff, decide_eq_true_iff]; cases hb : x.2 <;> simp [ent, hb] <;> omega), hcg1⟩
      · refine gy rfl rfl rfl (r (fa Tryd.underlying44 rfl ti4 rfl rfl) (gy rfl rfl rfl (r (ldb Tryd.underlying4 rfl rfl bg1 rfl) (gy rfl rfl rfl (r (nt rfl) (gy rfl rfl rfl (r (pk rfl rfl) (r (pk rfl rfl) (r (sa rfl) (re (rt ?_)))))))))))
        exact fin1 (v := .bool (!x.2)) Tryd.results57 rfl ⟨congrArg Value.bool (by rw [Bool.eq_iff_iff, decide_eq_true_iff]; cases hb : x.2 <;> simp [ent, hb] <;> omega), hcg1⟩
    · refine gn rfl rfl rfl (gn rfl rfl rfl (gn rfl rfl rfl (gn rfl rfl rfl (gu rfl rfl rfl (gu rfl rfl rfl (gu rfl rfl rfl (gn rfl rfl rfl (r (pk rfl rfl) (r (sa rfl) (re (rt ?_)))))))))))
      exact fin1 (v := .bool false) Tryd.results57 rfl ⟨congrArg Value.bool (by rw [Bool.eq_iff_iff, decide_eq_true_iff]; cases hb : x.2 <;> simp [ent, hb] <;> omega), hcg1⟩
  · refine gn rfl rfl rfl (gn rfl rfl rfl (gn rfl rfl rfl (r (pk rfl rfl) (r (mv rfl) (gn rfl rfl rfl (gn rfl rfl rfl (gn rfl rfl rfl (gn rfl rfl rfl (gu rfl rfl rfl (gu rfl rfl rfl (gu rfl rfl rfl (gn rfl rfl rfl (r (pk rfl rfl) (r (sa rfl) (re (rt ?_))))))))))))))))
    exact fin1 (v := .bool false) Tryd.results57 rfl ⟨congrArg Value.bool (by rw [Bool.eq_iff_iff, decide_eq_true_iff]; cases hb : x.2 <;> simp [ent, hb] <;> omega), hcg1⟩
theorem spec_EncodeTable {w : World} {F : List Nat} {v : Value} {xs : List (Int × Bool)} (hx : kE.R w F v xs) (lx : xs.length ≤ 1000000000) :
    Ret Tryd.prog 20 #[v] w (fun r w' => New u8 5 w w' r (encTable xs) ∧ Ch [] w w') := by
  refine enter Tryd.func20 rfl Tryd.ntmps20 (by rfl) (by rfl) ?_
  refine sq (rg (r (sa rfl) (re (sq (rg (bs0 Tryd.underlying22 ti5 ?_))))))
  intro v1 w1 N1 c1 s1
  obtain ⟨F1, W1, n1, f1⟩ := N1 u8 rfl
  replace f1 := low_t (Ch.refl [] w) f1
  have hc1 : Ch [] w w1 := (Ch.refl [] w).t c1
  refine r (sa rfl) (re (sq (sq (rg (r (mv rfl) (r (ln Tryd.underlying37 rfl ((hx.t hc1))) (r (bi rfl rfl rfl) (re ?_))))))))
  refine cp rfl (fun h => ?_) (fun h => ?_)
  · rw [show encTable xs = [] from if_neg (fun e => by omega)]
    refine sq (rg (r (mv rfl) (r (sa rfl) (re (rt ?_)))))
    exact fin1 (v := v1) Tryd.results20 rfl ⟨⟨F1, W1, n1, f1⟩, hc1⟩
  · refine sk (sq (sq (rg (r (sa rfl) (re (bl ?_))))))
    refine lp (α := Nat × List Nat × Value) (fun (k, F1, o) ρ w' => ρ 0 = v ∧ ρ 3 = o ∧ ρ 4 = .int .i64 (k : Int) ∧ Ch [] w w' ∧ Kd.W u8 5 w' F1 o (tabB (xs.take k)) ∧ F1.Nodup ∧ (∀ k, k ∈ F1 → w.heap.size ≤ k) ∧ k ≤ xs.length ∧ ∀ x, x ∈ xs.take k → ent x) (fun (k, F1, o) => xs.length - k) (0, F1, v1) ?_ ?_
    · exact ⟨rfl, rfl, rfl, hc1, W1, n1, f1, ⟨by omega, by simp⟩⟩
    rintro ⟨k, F1, o⟩ ρ w' ⟨y0, y3, y4, hc, W1, n1, f1, ⟨hk, hok⟩⟩
    refine sq (sq (rg (r (mv y4) (r (mv y0) (r (ln Tryd.underlying37 rfl ((hx.t hc))) (r (bi rfl rfl rfl) (re ?_)))))))
    refine cp rfl (fun hlt => ?_) (fun hlt => ?_)
    · have hk' : k < xs.length := by omega
      have hl := tabB_len (xs.take k)
      have hs := tabB_succ hk'
      rw [List.length_take] at hl
      refine sk (sq (bl (sq (sq (rg (r (mv y0) (r (mv y4) ?_)))))))
      obtain ⟨c19, ad19, k19, e19, p19⟩ := (hx).place k (by omega)
      have q19 := en_at p19
      refine r (ix Tryd.underlying37 ti44 e19 rfl (by omega)) (r (la [.int .i64 ((xs[k]).1), .bool ((xs[k]).2)] Tryd.underlying44 rfl ti44 rfl rfl (fun m u h => Ch.cell hc (q19 m u h))) (cl go59 (l2ValidEntry (x := xs[k])) (ac rfl an) ?_))
      rintro r wve ⟨rfl, cve⟩
      replace W1 := W1.t cve
      have hcve : Ch [] w wve := hc.t cve
      refine r (nt rfl) (re ?_)
      refine cpn rfl (fun hv => ?_) (fun hv => ?_)
      · rw [show encTable xs = [] from if_neg (fun e => hv (e.2 _ (List.getElem_mem hk')))]
        refine sq ?_
        refine gen (fun ρ => ρ 0 = v ∧ ρ 3 = o ∧ ρ 4 = .int .i64 (k : Int) ∧ True) ⟨y0, y3, y4, trivial⟩ ?_
        rintro ρ ⟨z0, z3, z4, -⟩
        refine rg (bs0 Tryd.underlying22 ti5 ?_)
        intro v2 w2 N2 c2 s2
        obtain ⟨F2, W2, n2, f2⟩ := N2 u8 rfl
        have x1_2 := x_new W1.lt f2
        replace f2 := low_t hcve f2
        replace W1 := W1.t c2
        have hc2 : Ch [] w w2 := hcve.t c2
        refine r (sa rfl) (re (rt ?_))
        exact fin1 (v := v2) Tryd.results20 rfl ⟨⟨F2, W2, n2, f2⟩, hc2⟩
      · have hok' := all_take hk' hok hv
        obtain ⟨hv1, hv2, hv3⟩ := hv
        refine sk (sq ?_)
        refine gen (fun ρ => ρ 0 = v ∧ ρ 3 = o ∧ ρ 4 = .int .i64 (k : Int) ∧ True) ⟨y0, y3, y4, trivial⟩ ?_
        rintro ρ ⟨z0, z3, z4, -⟩
        refine rg (r (mv z0) (r (mv z4) ?_))
        obtain ⟨c26, ad26, k26, e26, p26⟩ := (hx).place k (by omega)
        have q26 := en_at p26
        refine r (ix Tryd.underlying37 ti44 e26 rfl (by omega)) (r (fa' Tryd.underlying44 rfl ti2 rfl rfl) (r (ld Tryd.underlying2 rfl rfl (Ch.cell hcve (q26 0 _ rfl))) (r (sa rfl) (re (sq (sq (rg (r (mv z0) (r (mv z4) ?_)))))))))
        obtain ⟨c31, ad31, k31, e31, p31⟩ := (hx).place k (by omega)
        have q31 := en_at p31
        refine r (ix Tryd.underlying37 ti44 e31 rfl (by omega)) (r (fa' Tryd.underlying44 rfl ti4 rfl rfl) (r (ld Tryd.underlying4 rfl rfl (Ch.cell hcve (q31 1 _ rfl))) (re ?_)))
        refine cd rfl (fun hi => ?_) (fun hi => ?_)
        · rw [show entV xs[k] = xs[k].1 + 32768 from if_pos hi] at hs
          refine gen (fun ρ => ρ 0 = v ∧ ρ 3 = o ∧ ρ 4 = .int .i64 (k : Int) ∧ ρ 5 = .int .i64 ((xs[k]).1) ∧ True) ⟨z0, z3, z4, rfl, trivial⟩ ?_
          rintro ρ ⟨z0, z3, z4, z5, -⟩
          refine rg (r (mv z5) (r (ad (((xs[k]).1) + 32768) rfl rfl (by omega)) (r (sa rfl) (re (rg (r (mv z3) (r (mv rfl) (cl go55 (l2Big (n := 2) (v := xs[k].1 + 32768) (by omega) (by omega)) (ac rfl (ac rfl an)) ?_))))))))
          rintro r2 wb ⟨⟨F2, W2, n2, f2⟩, cb⟩
          have x1_2 := x_new W1.lt f2
          replace f2 := low_t hcve f2
          replace W1 := W1.t cb
          have hcb : Ch [] w wb := hcve.t cb
          refine ef (aps Tryd.underlying22 ti5 rfl (flat_int _) rfl rfl W1 (W2.R) n1 (by rw [hl, big_len]; omega)) ?_
          rintro v39 w39 ⟨F39, A39⟩
          have hA39 := A39.hc W1 hcb f1
          have tb := A39.row W1 (x_sym x1_2) W2
          have tx := A39.x (x_sym x1_2) W2.lt
          replace W2 := tb
          clear tb
          have x2_1 := tx
          replace f1 := A39.low hcb f1
          replace n1 := A39.nd
          replace W1 := A39.W
          refine r (sa rfl) (re (be (rg (r (mv z4) (r (ad ((k : Int) + 1) rfl rfl (by omega)) (r (sa rfl) (re ?_)))))))
          rw [← hs] at W1
          exact ag (k + 1, F39, v39) ⟨z0, rfl, rfl, hA39, W1, n1, f1, ⟨by omega, hok'⟩⟩ (by first | omega | (dsimp only; omega))
        · rw [show entV xs[k] = xs[k].1 from if_neg (by simp [hi])] at hs
          refine sk ?_
          refine gen (fun ρ => ρ 0 = v ∧ ρ 3 = o ∧ ρ 4 = .int .i64 (k : Int) ∧ ρ 5 = .int .i64 ((xs[k]).1) ∧ True) ⟨z0, z3, z4, rfl, trivial⟩ ?_
          rintro ρ ⟨z0, z3, z4, z5, -⟩
          refine rg (r (mv z3) (r (mv z5) (cl go55 (l2Big (n := 2) (v := xs[k].1) (by omega) (by omega)) (ac rfl (ac rfl an)) ?_)))
          rintro r2 wb ⟨⟨F2, W2, n2, f2⟩, cb⟩
          have x1_2 := x_new W1.lt f2
          replace f2 := low_t hcve f2
          replace W1 := W1.t cb
          have hcb : Ch [] w wb := hcve.t cb
          refine ef (aps Tryd.underlying22 ti5 rfl (flat_int _) rfl rfl W1 (W2.R) n1 (by rw [hl, big_len]; omega)) ?_
          rintro v39 w39 ⟨F39, A39⟩
          have hA39 := A39.hc W1 hcb f1
          have tb := A39.row W1 (x_sym x1_2) W2
          have tx := A39.x (x_sym x1_2) W2.lt
          replace W2 := tb
          clear tb
          have x2_1 := tx
          replace f1 := A39.low hcb f1
          replace n1 := A39.nd
          replace W1 := A39.W
          refine r (sa rfl) (re (be (rg (r (mv z4) (r (ad ((k : Int) + 1) rfl rfl (by omega)) (r (sa rfl) (re ?_)))))))
          rw [← hs] at W1
          exact ag (k + 1, F39, v39) ⟨z0, rfl, rfl, hA39, W1, n1, f1, ⟨by omega, hok'⟩⟩ (by first | omega | (dsimp only; omega))
    · obtain rfl : k = xs.length := by omega
      rw [List.take_length] at W1 hok
      rw [show encTable xs = tabB xs from if_pos ⟨by omega, hok⟩]
      refine ex rfl (sq (rg (r (mv y3) (r (sa rfl) (re (rt ?_))))))
      exact fin1 (v := o) Tryd.results20 rfl ⟨⟨F1, W1, n1, f1⟩, hc⟩
def nums (xs : List (Int × Bool)) : List (Int × Int) := xs.map (fun x => (2, entV x))
theorem nums_succ {xs : List (Int × Bool)} {k : Nat} (hk : k < xs.length) : nums (xs.take (k + 1)) = nums (xs.take k) ++ [(2, entV xs[k])] := by
  rw [List.take_succ_eq_append_getElem hk]; simp only [nums, List.map_append, List.map_cons, List.map_nil]
theorem flat_nums (xs : List (Int × Bool)) : flat (nums xs) = tabB xs := by
  induction xs with
  | nil => rfl
  | cons x xs ih => simp only [flat, nums, tabB, List.map_cons, List.flatMap_cons] at ih ⊢; rw [ih]; rfl
theorem nums_ok {xs : List (Int × Bool)} (h : ∀ x, x ∈ xs → ent x) : ∀ y, y ∈ nums xs → 0 ≤ y.1 ∧ y.1 ≤ 100 ∧ 0 ≤ y.2 ∧ y.2 ≤ 9223372036854775807 := by
  intro y hy
  obtain ⟨x, hx, rfl⟩ := List.mem_map.1 hy
  obtain ⟨h1, h2, _⟩ := h x hx
  have : 0 ≤ entV x ∧ entV x ≤ 65535 := by unfold entV; split <;> omega
  exact ⟨by show (0 : Int) ≤ 2; decide, by show (2 : Int) ≤ 100; decide, this.1, by show entV x ≤ _; omega⟩
theorem encTable_len (xs : List (Int × Bool)) : (encTable xs).length ≤ 2048 := by
  unfold encTable; split
  · rename_i h; rw [tabB_len]; omega
  · simp
theorem impl_EncodeTable {w : World} {F : List Nat} {v : Value} {xs : List (Int × Bool)} (hx : kE.R w F v xs) (lx : xs.length ≤ 1000000000) :
    Ret Tryd.prog 19 #[v] w (fun r w' => New u8 5 w w' r (encTable xs) ∧ Ch [] w w') := by
  refine enter Tryd.func19 rfl Tryd.ntmps19 (by rfl) (by rfl) ?_
  refine sq (rg (r (sa rfl) (re (sq (sq (rg (r (mv rfl) (r (ln Tryd.underlying37 rfl ((hx.t (Ch.refl [] w)))) (r (bi rfl rfl rfl) (re ?_))))))))))
  refine cp rfl (fun h => ?_) (fun h => ?_)
  · rw [show encTable xs = [] from if_neg (fun e => by omega)]
    refine sq (rg (r (sa rfl) (re (rt ?_))))
    exact fin1 (v := .slice none 0 0) Tryd.results19 rfl ⟨⟨[], Kd.nil_W _ _ _, List.nodup_nil, by simp⟩, (Ch.refl [] w)⟩
  · refine sk (sq (rg (r (sa rfl) (re (sq (sq (rg (r (mv rfl) (r (ln Tryd.underlying37 rfl ((hx.t (Ch.refl [] w)))) (r (mv rfl) (re (bl ?_))))))))))))
    have W1 := Kd.nil_W knum 98 w
    have n1 : ([] : List Nat).Nodup := List.nodup_nil
    have f1 : ∀ k, k ∈ ([] : List Nat) → w.heap.size ≤ k := by simp
    refine lp (α := Nat × List Nat × Value) (fun (k, F1, o) ρ w' => ρ 10 = v ∧ ρ 11 = .int .i64 (xs.length : Int) ∧ ρ 12 = .int .i64 (k : Int) ∧ ρ 3 = o ∧ Ch [] w w' ∧ Kd.W knum 98 w' F1 o (nums (xs.take k)) ∧ F1.Nodup ∧ (∀ k, k ∈ F1 → w.heap.size ≤ k) ∧ k ≤ xs.length ∧ ∀ x, x ∈ xs.take k → ent x) (fun (k, F1, o) => xs.length - k) (0, [], .slice none 0 0) ?_ ?_
    · exact ⟨rfl, rfl, rfl, rfl, (Ch.refl [] w), W1, n1, f1, ⟨by omega, by simp⟩⟩
    rintro ⟨k, F1, o⟩ ρ w' ⟨y10, y11, y12, y3, hc, W1, n1, f1, ⟨hk, hok⟩⟩
    refine sq (rg (r (bi y12 y11 rfl) (re (sq ?_))))
    refine cp rfl (fun hlt => ?_) (fun hlt => ?_)
    · have hk' : k < xs.length := by omega
      have hl : (nums (xs.take k)).length ≤ 1024 := by simp [nums]; omega
      have hs := nums_succ hk'
      refine sk (sq (bl (sq (rg ?_))))
      obtain ⟨c14, ad14, k14, e14, p14⟩ := (hx).place k (by omega)
      have q14 := en_at p14
      refine r (ix Tryd.underlying37 ti44 (y10.trans e14) y12 (by omega)) (r (la [.int .i64 ((xs[k]).1), .bool ((xs[k]).2)] Tryd.underlying44 rfl ti44 rfl rfl (fun m u h => Ch.cell hc (q14 m u h))) (al ti44 ?_))
      intro g5 wg5 eg5 sg5 bg5 cg5
      have d1_g5 := fresh_d W1.lt eg5
      have qg5 := le_new hc.size eg5
      replace W1 := W1.t cg5
      have hcg5 : Ch [] w wg5 := hc.t cg5
      replace bg5 : B wg5 g5 44 ([.int .i64 0, .bool false]) := bg5
      refine st ti44 rfl rfl bg5 rfl (Nat.le_of_ble_eq_true rfl) (one_all rfl) ?_
      intro wS3g5 sS3g5 bg5 cS3g5
      replace W1 := W1.tt cS3g5 d1_g5
      have hcS3g5 : Ch [] w wS3g5 := hcg5.own cS3g5 qg5
      replace bg5 : B wS3g5 g5 44 ([.int .i64 ((xs[k]).1), .bool ((xs[k]).2)]) := bg5
      refine re (sq (sq (rg (r (lab [.int .i64 ((xs[k]).1), .bool ((xs[k]).2)] Tryd.underlying44 rfl ti44 rfl bg5 rfl rfl) (cl go57 (Entry_valid (x := xs[k])) (ac rfl an) ?_)))))
      rintro r wve ⟨rfl, cve⟩
      replace bg5 := cve.b0 bg5
      replace W1 := W1.t cve
      have hcve : Ch [] w wve := hcS3g5.t cve
      refine r (nt rfl) (re ?_)
      refine cpn rfl (fun hv => ?_) (fun hv => ?_)
      · rw [show encTable xs = [] from if_neg (fun e => hv (e.2 _ (List.getElem_mem hk')))]
        refine sq (rg (r (sa rfl) (re (rt ?_))))
        exact fin1 (v := .slice none 0 0) Tryd.results19 rfl ⟨⟨[], Kd.nil_W _ _ _, List.nodup_nil, by simp⟩, hcve⟩
      · have hok' := all_take hk' hok hv
        obtain ⟨hv1, hv2, hv3⟩ := hv
        refine sk (sq (rg (r (fa Tryd.underlying44 rfl ti2 rfl rfl) (r (ldb Tryd.underlying2 rfl rfl bg5 rfl) (r (sa rfl) (re (sq (sq ?_))))))))
        refine gen (fun ρ => ρ 3 = o ∧ ρ 5 = .pointer (some ⟨g5, 0, none⟩) ∧ ρ 6 = .int .i64 ((xs[k]).1) ∧ ρ 10 = v ∧ ρ 11 = .int .i64 (xs.length : Int) ∧ ρ 12 = .int .i64 (k : Int) ∧ True) ⟨y3, rfl, rfl, y10, y11, y12, trivial⟩ ?_
        rintro ρ ⟨z3, z5, z6, z10, z11, z12, -⟩
        refine rg (r (fa Tryd.underlying44 rfl ti4 rfl z5) (r (ldb Tryd.underlying4 rfl rfl bg5 rfl) (re ?_)))
        refine cd rfl (fun hi => ?_) (fun hi => ?_)
        · rw [show entV xs[k] = xs[k].1 + 32768 from if_pos hi] at hs
          refine rg (r (mv z6) (r (ad (((xs[k]).1) + 32768) rfl rfl (by omega)) (r (sa rfl) (re (rg (r (mv z3) (r (mv rfl) (r (bd (r := [.int .i64 2, .int .i64 (((xs[k]).1) + 32768)]) ti98 pl98 (pc rfl (cel1 rfl) (pc rfl (cel1 rfl) pn)) rfl) (ap1 Tryd.underlying96 ti98 rfl (fun _ => rfl) rfl W1 (show Kd.O knum _ [] (2, ((xs[k]).1) + 32768) _ from ⟨rfl, rfl⟩) (nodup_nil n1) (by omega) rfl ?_)))))))))
          intro _ v29 w29 F29 A29
          have hA29 := A29.hc W1 hcve f1
          have tb := A29.blk W1 d1_g5 bg5
          replace d1_g5 := A29.dis d1_g5 bg5.lt
          replace bg5 := tb
          clear tb
          replace f1 := A29.low hcve f1
          replace n1 := A29.nd
          replace W1 := A29.W
          refine r (sa rfl) (re (be ?_))
          refine gen (fun ρ => ρ 3 = v29 ∧ ρ 10 = v ∧ ρ 11 = .int .i64 (xs.length : Int) ∧ ρ 12 = .int .i64 (k : Int) ∧ True) ⟨rfl, z10, z11, z12, trivial⟩ ?_
          rintro ρ ⟨z3, z10, z11, z12, -⟩
          refine rg (r (ad ((k : Int) + 1) z12 rfl (by omega)) (r (mv rfl) (re ?_)))
          rw [← hs] at W1
          exact ag (k + 1, F29, v29) ⟨z10, z11, rfl, z3, hA29, W1, n1, f1, ⟨by omega, hok'⟩⟩ (by first | omega | (dsimp only; omega))
        · rw [show entV xs[k] = xs[k].1 from if_neg (by simp [hi])] at hs
          refine sk (rg (r (mv z3) (r (mv z6) (r (bd (r := [.int .i64 2, .int .i64 ((xs[k]).1)]) ti98 pl98 (pc rfl (cel1 rfl) (pc rfl (cel1 rfl) pn)) rfl) (ap1 Tryd.underlying96 ti98 rfl (fun _ => rfl) rfl W1 (show Kd.O knum _ [] (2, (xs[k]).1) _ from ⟨rfl, rfl⟩) (nodup_nil n1) (by omega) rfl ?_)))))
          intro _ v29 w29 F29 A29
          have hA29 := A29.hc W1 hcve f1
          have tb := A29.blk W1 d1_g5 bg5
          replace d1_g5 := A29.dis d1_g5 bg5.lt
          replace bg5 := tb
          clear tb
          replace f1 := A29.low hcve f1
          replace n1 := A29.nd
          replace W1 := A29.W
          refine r (sa rfl) (re (be (rg (r (ad ((k : Int) + 1) z12 rfl (by omega)) (r (mv rfl) (re ?_))))))
          rw [← hs] at W1
          exact ag (k + 1, F29, v29) ⟨z10, z11, rfl, rfl, hA29, W1, n1, f1, ⟨by omega, hok'⟩⟩ (by first | omega | (dsimp only; omega))
    · obtain rfl : k = xs.length := by omega
      rw [List.take_length] at W1 hok
      rw [show encTable xs = tabB xs from if_pos ⟨by omega, hok⟩]
      refine ex rfl (sq (rg (r (mv y3) (cl go58 (bytesOf W1.R (by simp [nums]; omega) (nums_ok hok)) (ac rfl an) ?_))))
      rintro r2 wb ⟨⟨F2, W2, n2, f2⟩, cb⟩
      rw [flat_nums] at W2
      have x1_2 := x_new W1.lt f2
      replace f2 := low_t hc f2
      replace W1 := W1.t cb
      have hcb : Ch [] w wb := hc.t cb
      refine r (sa rfl) (re (rt ?_))
      exact fin1 (v := r2) Tryd.results19 rfl ⟨⟨F2, W2, n2, f2⟩, hcb⟩
end Go.Proofs.YtgpcanjmgdmdhaaDoor
