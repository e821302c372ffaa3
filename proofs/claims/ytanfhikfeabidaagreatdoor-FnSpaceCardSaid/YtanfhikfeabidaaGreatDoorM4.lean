/-
  SEVERAL TEXTS OF MY OWN IN ONE: 92, 93, 94, 95, 96, 97, 98, 99. No condition.
-/
import Derived.Test.YtanfhikfeabidaaGreatDoorM3
import Derived.Test.YtanfhikfeabidaaGreatDoorM1
import Derived.Laws.Externs
import Derived.Lib.UnsafeStr
namespace Go.Proofs.YtanfhikfeabidaaGreatDoor
open Go Go.Eng
set_option maxRecDepth 100000
set_option maxHeartbeats 4000000
set_option linter.unusedVariables false
set_option linter.unusedSimpArgs false
def usedN (t : List (Int × Bool)) : Int := ((t.filter (fun x => decide (¬ x.1 = 0))).length : Int)
theorem usedN_take {t : List (Int × Bool)} {k : Nat} (h : k < t.length) : usedN (t.take (k + 1)) = usedN (t.take k) + (if ¬ t[k].1 = 0 then 1 else 0) := by
  rw [List.take_succ_eq_append_getElem h, usedN, usedN, List.filter_append]
  by_cases e : t[k].1 = 0 <;> simp [e]
theorem usedN_le (t : List (Int × Bool)) : 0 ≤ usedN t ∧ usedN t ≤ t.length := by
  have := List.length_filter_le (fun x : Int × Bool => decide (¬ x.1 = 0)) t
  unfold usedN; omega
/-- The room of the segments that are free, of the first k. -/
def frS (cs : List Int) (a b : Int) : Nat → Int
  | 0 => 0
  | k + 1 => frS cs a b k + (if ¬ (k : Int) = a ∧ cs.getD k 0 = 0 then b else 0)
theorem frS_le {cs : List Int} {a b : Int} (hb : 0 ≤ b ∧ b ≤ 16) : ∀ k : Nat, 0 ≤ frS cs a b k ∧ frS cs a b k ≤ 16 * (k : Int) := by
  intro k
  induction k with
  | zero => simp [frS]
  | succ k ih => simp only [frS]; split <;> omega
def freeF (cs : List Int) (a us b : Int) : Int := frS cs a b cs.length + (if 0 ≤ a then b - us else 0)
theorem impl_used {w : World} {F : List Nat} {v : Value} {t : List (Int × Bool)} (hx : kE.R w F v t) (lx : t.length ≤ 1000000000) : Ret Tryz.prog 28 #[v] w (fun r w' => r = .int .i64 (usedN t) ∧ Ch [] w w') := by
  refine enter Tryz.func28 rfl Tryz.ntmps28 (by rfl) (by rfl) ?_
  have H0 : Hold w [] w [] := Hold.start w
  have hlu := fun k => usedN_le (t.take k)
  refine sq (rg (r (sa rfl) (re (sq (rg (r (sa rfl) (re (sq (sq (rg (r (mv rfl) (r (ln Tryz.underlying58 rfl ((hx.t (Hold.ch H0)))) (r (mv rfl) (re (bl ?_)))))))))))))))
  refine lp (α := Nat) (fun k ρ w' => ρ 3 = .int .i64 (usedN (t.take k)) ∧ ρ 6 = v ∧ ρ 7 = .int .i64 (t.length : Int) ∧ ρ 8 = .int .i64 (k : Int) ∧ Hold w [] w' [] ∧ k ≤ t.length) (fun k => t.length - k) 0 ?_ ?_
  · exact ⟨rfl, rfl, rfl, rfl, H0, by omega⟩
  clear H0
  rintro k ρ w501 ⟨y3, y6, y7, y8, H1, hk⟩
  refine sq (rg (r (bi y8 y7 rfl) (re (sq ?_))))
  refine cp rfl (fun h => ?_) (fun h => ?_)
  · have hk' : k < t.length := by omega
    have hs := usedN_take hk'
    have hl := hlu k
    rw [List.length_take] at hl
    refine sk (sq (bl (sq (rg ?_))))
    obtain ⟨c10_1, ad10_1, k10_1, e10_1, p10_1⟩ := Kd.R.place hx k (by omega)
    have q10_1 := en_at p10_1
    refine r (ix (j := k) Tryz.underlying58 ti115 (y6.trans e10_1) y8 (by omega)) (r (la [.int .i64 ((t[k]).1), .bool ((t[k]).2)] Tryz.underlying115 rfl ti115 rfl rfl (fun m u h => (Ch.cell (Hold.ch H1) (q10_1 m u h)))) (ef (xal ti115) ?_))
    rintro _ w2 ⟨g5, e2, rfl, -, b2, c2⟩
    have H2 : Hold w [] w2 [rB g5 115 ([.int .i64 0, .bool false])] := Hold.newB H1 e2 b2 c2
    clear H1
    clear e2 b2 c2
    have b3 : B w2 g5 115 ([.int .i64 0, .bool false]) := Hold.blk H2 0 rfl
    refine ef0 (xst (vs := [.int .i64 ((t[k]).1), .bool ((t[k]).2)]) ti115 rfl rfl rfl b3 rfl (Nat.le_of_ble_eq_true rfl) (one_all rfl)) ?_
    rintro w4 ⟨-, b4, c4⟩
    have H3 : Hold w [] w4 [rB g5 115 ([.int .i64 ((t[k]).1), .bool ((t[k]).2)])] := Hold.setB H2 0 rfl b4 c4 rfl
    clear H2
    clear b4 c4
    have b5 : B w4 g5 115 ([.int .i64 ((t[k]).1), .bool ((t[k]).2)]) := Hold.blk H3 0 rfl
    refine re (sq (rg (r (fa Tryz.underlying115 rfl ti2 rfl rfl) (r (ldb Tryz.underlying2 rfl rfl b5 rfl) (r (bi rfl rfl rfl) (re ?_))))))
    refine cpn rfl (fun h2 => ?_) (fun h2 => ?_)
    · rw [if_pos (by simpa using h2)] at hs
      refine rg (r (mv y3) (r (ad (a := usedN (t.take k)) (b := 1) (usedN (t.take (k + 1))) rfl rfl (by omega)) (r (sa rfl) (re (be ?_)))))
      refine gen (fun ρ => ρ 3 = .int .i64 (usedN (t.take (k + 1))) ∧ ρ 6 = v ∧ ρ 7 = .int .i64 (t.length : Int) ∧ ρ 8 = .int .i64 (k : Int) ∧ True) ⟨rfl, y6, y7, y8, trivial⟩ ?_
      rintro ρ ⟨z3, z6, z7, z8, -⟩
      refine rg (r (ad (a := (k : Int)) (b := 1) ((k : Int) + 1) z8 rfl (by omega)) (r (mv rfl) (re ?_)))
      have H4 : Hold w [] w4 [] := (show Hold w [] w4 ([] ++ [rB g5 115 ([.int .i64 ((t[k]).1), .bool ((t[k]).2)])]) from Hold.re H3 [0] (by kernel_rfl) (by rfl)).drop
      clear H3
      exact ag (k + 1) ⟨z3, z6, z7, rfl, H4, by omega⟩ (by first | omega | (dsimp only; omega))
    · rw [if_neg (by simpa using h2)] at hs
      refine sk (be (rg (r (ad (a := (k : Int)) (b := 1) ((k : Int) + 1) y8 rfl (by omega)) (r (mv rfl) (re ?_)))))
      have H4 : Hold w [] w4 [] := (show Hold w [] w4 ([] ++ [rB g5 115 ([.int .i64 ((t[k]).1), .bool ((t[k]).2)])]) from Hold.re H3 [0] (by kernel_rfl) (by rfl)).drop
      clear H3
      exact ag (k + 1) ⟨(y3.trans (congrArg (Value.int .i64) (by rw [hs]; simp))), y6, y7, rfl, H4, by omega⟩ (by first | omega | (dsimp only; omega))
  · have ek : k = t.length := by omega
    refine ex rfl (sq (rg (r (mv y3) (r (sa rfl) (re (rt ?_))))))
    exact fin1 (v := .int .i64 (usedN (t.take k))) Tryz.results28 rfl ⟨(by rw [ek, List.take_length]), Hold.ch H1⟩
theorem eng_counts {w : World} {G : List Nat} {ge gp gw gd gl gk : Nat} {tv : Value} {s b qn actv usd opn : Int} {tab : List (Int × Bool)} (hB : B w ge 60 (eC s b gp gw gd tv qn actv usd opn gl gk)) (hT : kE.R w G tv tab) (lt : tab.length ≤ 2000) : Ret Tryz.prog 139 #[.pointer (some ⟨ge, 0, none⟩)] w (fun r w' => Hold w [] w' [rR i64 2 r (segCounts tab s b)]) := by
  refine enter Tryz.func139 rfl Tryz.ntmps139 (by rfl) (by rfl) ?_
  have H0 : Hold w [] w [] := Hold.start w
  refine sq (rg (r (sa rfl) (re (sq ?_))))
  refine rde mixed ?_
  intro w1 c1
  have H1 : Hold w [] w1 [] := Hold.t H0 c1
  clear H0
  clear c1
  have H2d0 : Hold w1 [] w1 [] := Hold.start w1
  refine ⟨fun w' => Ch [] w1 w', Ch.refl _ _, ?_⟩
  refine edt 0 rfl (by kernel_rfl) (fun w' hS => mv rfl) (edt 1 rfl (by kernel_rfl) (fun w' hS => nck rfl) (edt 2 rfl (by kernel_rfl) (fun w' hS => fa Tryz.underlying60 rfl ti58 rfl rfl) (edt 3 rfl (by kernel_rfl) (fun w' hS => ldb Tryz.underlying58 rfl rfl (hS.b0 ((Hold.ch H1).b0 hB)) rfl) (edt 4 rfl (by kernel_rfl) (fun w' hS => mv rfl) (edt 5 rfl (by kernel_rfl) (fun w' hS => nck rfl) (edt 6 rfl (by kernel_rfl) (fun w' hS => fa Tryz.underlying60 rfl ti25 rfl rfl) (edt 7 rfl (by kernel_rfl) (fun w' hS => lab [.int .i64 s, .int .i64 b] Tryz.underlying25 rfl ti25 rfl (hS.b0 ((Hold.ch H1).b0 hB)) rfl rfl) (ed1 8 (by kernel_rfl) <| euc rfl go30 (ac rfl (ac rfl an)) (Ret.hold (d := i64) (impl_SegmentCounts ((hT.t (Hold.ch H1)).t (Hold.ch H2d0)) (by omega))) ?_))))))))
  rintro r3 wc Hc
  have H2d : Hold w1 [] wc [rR i64 2 r3 (segCounts tab s b)] := Hold.news H2d0 Hc
  clear H2d0
  clear Hc
  refine ⟨.inr (Hold.ch H2d), ?_⟩
  have H3 : Hold w [] wc [rR i64 2 r3 (segCounts tab s b)] := Hold.news H1 H2d
  clear H2d H1
  refine ed1 9 (by kernel_rfl) <| eur rfl (sa rfl) (.inl (by kernel_rfl)) ?_
  refine edd (by kernel_rfl) ?_
  refine rt ?_
  exact fin1 (v := r3) Tryz.results139 rfl H3
theorem eng_free {w : World} {G : List Nat} {ge gp gw gd gl gk : Nat} {tv : Value} {s b qn actv usd opn : Int} {tab : List (Int × Bool)} (hB : B w ge 60 (eC s b gp gw gd tv qn actv usd opn gl gk)) (hT : kE.R w G tv tab) (lt : tab.length ≤ 2000) (hg : geo s b) (hu : 0 ≤ usd ∧ usd ≤ 16) : Ret Tryz.prog 99 #[.pointer (some ⟨ge, 0, none⟩)] w (fun r w' => r = .int .i64 (freeF (segCounts tab s b) actv usd b) ∧ Ch [] w w') := by
  have hcl := segCounts_len tab s b
  refine enter Tryz.func99 rfl Tryz.ntmps99 (by rfl) (by rfl) ?_
  have H0 : Hold w [] w [] := Hold.start w
  obtain ⟨cs, hcs⟩ : ∃ c, c = segCounts tab s b := ⟨_, rfl⟩
  rw [← hcs] at hcl ⊢
  have hfl := fun k => frS_le (cs := cs) (a := actv) (b := b) (by unfold geo at hg; omega) k
  have hg2 := hg
  unfold geo at hg2
  refine sq (rg (r (sa rfl) (re (sq (rg (r (sa rfl) (re (sq (sq (rg (r (mv rfl) (cl go139 (eng_counts ((Hold.ch H0).b0 hB) (hT.t (Hold.ch H0)) lt) (ac rfl an) ?_))))))))))))
  rintro r3 wc Hc
  rw [← hcs] at Hc
  have H1 : Hold w [] wc [rR i64 2 r3 cs] := Hold.news H0 Hc
  clear H0
  clear Hc
  obtain ⟨_, R2⟩ : ∃ F, Kd.R i64 wc F r3 cs := Hold.row H1 0 rfl
  refine r (ln Tryz.underlying86 rfl (R2)) (r (mv rfl) (re (bl ?_)))
  refine lp (α := Nat) (fun k ρ w' => ρ 0 = .pointer (some ⟨ge, 0, none⟩) ∧ ρ 3 = .int .i64 (frS cs actv b k) ∧ ρ 7 = r3 ∧ ρ 8 = .int .i64 (cs.length : Int) ∧ ρ 9 = .int .i64 (k : Int) ∧ Hold w [] w' [rR i64 2 r3 cs] ∧ k ≤ cs.length) (fun k => cs.length - k) 0 ?_ ?_
  · exact ⟨rfl, rfl, rfl, rfl, rfl, H1, by omega⟩
  clear H1
  rintro k ρ w502 ⟨y0, y3, y7, y8, y9, H2, hk⟩
  refine sq (rg (r (bi y9 y8 rfl) (re (sq ?_))))
  refine cp rfl (fun h => ?_) (fun h => ?_)
  · have hk' : k < cs.length := by omega
    have hf := hfl k
    have hf1 := hfl (k + 1)
    have hS : frS cs actv b (k + 1) = frS cs actv b k + (if ¬ (k : Int) = actv ∧ cs.getD k 0 = 0 then b else 0) := rfl
    rw [getD_eq hk'] at hS
    obtain ⟨_, R3⟩ : ∃ F, Kd.R i64 w502 F r3 cs := Hold.row H2 0 rfl
    refine sk (sq (bl (sq (rg (r (mv y9) ?_)))))
    obtain ⟨c12_4, ad12_4, k12_4, e12_4, p12_4⟩ := Kd.R.place R3 k (by omega)
    refine r (ix (j := k) Tryz.underlying86 ti2 (y7.trans e12_4) y9 (by omega)) (r (ld Tryz.underlying2 rfl rfl p12_4.cell) (r (sa rfl) (r (sa rfl) (re (sq (rg (r (mv rfl) (r (mv y0) (r (nck rfl) (r (fa Tryz.underlying60 rfl ti2 rfl rfl) (r (ldb Tryz.underlying2 rfl rfl ((Hold.ch H2).b0 hB) rfl) (r (bi rfl rfl rfl) (r (mv rfl) ?_)))))))))))))
    refine spn 20 rfl (fun h2 => ?_) (fun h2 => ?_)
    · refine gy rfl rfl rfl (r (mv rfl) (gy rfl rfl rfl (r (bi rfl rfl rfl) (r (pk rfl rfl) (re ?_)))))
      refine cp rfl (fun h3 => ?_) (fun h3 => ?_)
      · rw [if_pos ⟨by simpa using h2, by simpa using h3⟩] at hS
        refine gen (fun ρ => ρ 0 = .pointer (some ⟨ge, 0, none⟩) ∧ ρ 3 = .int .i64 (frS cs actv b k) ∧ ρ 7 = r3 ∧ ρ 8 = .int .i64 (cs.length : Int) ∧ ρ 9 = .int .i64 (k : Int) ∧ True) ⟨y0, y3, y7, y8, y9, trivial⟩ ?_
        rintro ρ ⟨z0, z3, z7, z8, z9, -⟩
        refine rg (r (mv z3) (r (mv z0) (r (nck rfl) (r (fa Tryz.underlying60 rfl ti25 rfl rfl) (r (fa Tryz.underlying25 rfl ti2 rfl rfl) (r (ldb Tryz.underlying2 rfl rfl ((Hold.ch H2).b0 hB) rfl) (r (ad (a := frS cs actv b k) (b := b) (frS cs actv b (k + 1)) rfl rfl (by omega)) (r (sa rfl) (re (be (rg (r (ad (a := (k : Int)) (b := 1) ((k : Int) + 1) z9 rfl (by omega)) (r (mv rfl) (re ?_))))))))))))))
        exact ag (k + 1) ⟨z0, rfl, z7, z8, rfl, H2, by omega⟩ (by first | omega | (dsimp only; omega))
      · rw [if_neg (fun e => by have := e.2; simp_all)] at hS
        refine sk (be ?_)
        refine gen (fun ρ => ρ 0 = .pointer (some ⟨ge, 0, none⟩) ∧ ρ 3 = .int .i64 (frS cs actv b k) ∧ ρ 7 = r3 ∧ ρ 8 = .int .i64 (cs.length : Int) ∧ ρ 9 = .int .i64 (k : Int) ∧ True) ⟨y0, y3, y7, y8, y9, trivial⟩ ?_
        rintro ρ ⟨z0, z3, z7, z8, z9, -⟩
        refine rg (r (ad (a := (k : Int)) (b := 1) ((k : Int) + 1) z9 rfl (by omega)) (r (mv rfl) (re ?_)))
        exact ag (k + 1) ⟨z0, (z3.trans (congrArg (Value.int .i64) (by rw [hS]; simp))), z7, z8, rfl, H2, by omega⟩ (by first | omega | (dsimp only; omega))
    · rw [if_neg (fun e => by have := e.1; simp_all)] at hS
      refine gn rfl rfl rfl (gn rfl rfl rfl (r (pk rfl rfl) (re (cf rfl (sk (be ?_))))))
      refine gen (fun ρ => ρ 0 = .pointer (some ⟨ge, 0, none⟩) ∧ ρ 3 = .int .i64 (frS cs actv b k) ∧ ρ 7 = r3 ∧ ρ 8 = .int .i64 (cs.length : Int) ∧ ρ 9 = .int .i64 (k : Int) ∧ True) ⟨y0, y3, y7, y8, y9, trivial⟩ ?_
      rintro ρ ⟨z0, z3, z7, z8, z9, -⟩
      refine rg (r (ad (a := (k : Int)) (b := 1) ((k : Int) + 1) z9 rfl (by omega)) (r (mv rfl) (re ?_)))
      exact ag (k + 1) ⟨z0, (z3.trans (congrArg (Value.int .i64) (by rw [hS]; simp))), z7, z8, rfl, H2, by omega⟩ (by first | omega | (dsimp only; omega))
  · have ek : k = cs.length := by omega
    have hf := hfl k
    refine ex rfl (sq (sq (rg (r (mv y0) (r (nck rfl) (r (fa Tryz.underlying60 rfl ti2 rfl rfl) (r (ldb Tryz.underlying2 rfl rfl ((Hold.ch H2).b0 hB) rfl) (r (bi rfl rfl rfl) (re ?_)))))))))
    refine cp rfl (fun h4 => ?_) (fun h4 => ?_)
    · have hF : freeF cs actv usd b = frS cs actv b k + (b - usd) := by unfold freeF; rw [if_pos (by simpa using h4), ek]
      refine rd mixed (by kernel_rfl) (q (mv y3) (q (mv y0) (q (nck rfl) (q (fa Tryz.underlying60 rfl ti25 rfl rfl) (q (fa Tryz.underlying25 rfl ti2 rfl rfl) (q (ldb Tryz.underlying2 rfl rfl ((Hold.ch H2).b0 hB) rfl) (q (mv y0) (q (nck rfl) (q (fa Tryz.underlying60 rfl ti2 rfl rfl) (q (ldb Tryz.underlying2 rfl rfl ((Hold.ch H2).b0 hB) rfl) (q (sb (a := b) (b := usd) (b - usd) rfl rfl (by omega)) (q (ad (a := frS cs actv b k) (b := b - usd) (freeF cs actv usd b) rfl rfl (by omega)) (q (sa rfl) (me ?_))))))))))))))
      intro w1 c1
      have H3 : Hold w [] w1 [rR i64 2 r3 cs] := Hold.t H2 c1
      clear H2
      refine sq ?_
      refine gen (fun ρ => ρ 3 = .int .i64 (freeF cs actv usd b) ∧ True) ⟨rfl, trivial⟩ ?_
      rintro ρ ⟨z3, -⟩
      refine rg (r (mv z3) (r (sa rfl) (re (rt ?_))))
      exact fin1 (v := .int .i64 (freeF cs actv usd b)) Tryz.results99 rfl ⟨rfl, Hold.ch H3⟩
    · have hF : freeF cs actv usd b = frS cs actv b k := by unfold freeF; rw [if_neg (by simpa using h4), ek]; omega
      refine sk (sq (rg (r (mv y3) (r (sa rfl) (re (rt ?_))))))
      exact fin1 (v := .int .i64 (frS cs actv b k)) Tryz.results99 rfl ⟨(by rw [hF]), Hold.ch H2⟩
theorem eng_makeRoom {w : World} {G : List Nat} {ge gp gw gd gl gk : Nat} {tv : Value} {s b qn actv usd opn : Int} {tab : List (Int × Bool)} {n : Int} (hB : B w ge 60 (eC s b gp gw gd tv qn actv usd opn gl gk)) (hT : kE.R w G tv tab) (lt : tab.length ≤ 2000) (hg : geo s b) (hu : 0 ≤ usd ∧ usd ≤ 16) (hn : 0 ≤ n ∧ n ≤ 1000) (hfr : n + b ≤ freeF (segCounts tab s b) actv usd b) : Ret Tryz.prog 123 #[.pointer (some ⟨ge, 0, none⟩), .int .i64 n] w (fun r w' => Ch [] w w') := by
  have hg2 := hg
  unfold geo at hg2
  refine enter Tryz.func123 rfl Tryz.ntmps123 (by rfl) (by rfl) ?_
  have H0 : Hold w [] w [] := Hold.start w
  obtain ⟨z, hz⟩ : ∃ z, z = freeF (segCounts tab s b) actv usd b := ⟨_, rfl⟩
  rw [← hz] at hfr
  refine bl ?_
  refine lp (α := Unit) (fun _u ρ w' => ρ 0 = .pointer (some ⟨ge, 0, none⟩) ∧ ρ 1 = .int .i64 n ∧ Hold w [] w' [] ∧ True) (fun _u => 0) () ?_ ?_
  · exact ⟨rfl, rfl, H0, trivial⟩
  clear H0
  rintro _u ρ w501 ⟨y0, y1, H1, -⟩
  refine sq (sq ?_)
  refine rde mixed ?_
  intro w1 c1
  have H2 : Hold w [] w1 [] := Hold.t H1 c1
  clear H1
  clear c1
  have H2d0 : Hold w1 [] w1 [] := Hold.start w1
  refine ⟨fun w' => Ch [] w1 w', Ch.refl _ _, ?_⟩
  refine edt 0 rfl (by kernel_rfl) (fun w' hS => mv y0) (edt 2 rfl (by kernel_rfl) (fun w' hS => mv y1) (edt 3 rfl (by kernel_rfl) (fun w' hS => mv y0) (edt 4 rfl (by kernel_rfl) (fun w' hS => nck rfl) (edt 5 rfl (by kernel_rfl) (fun w' hS => fa Tryz.underlying60 rfl ti25 rfl rfl) (edt 6 rfl (by kernel_rfl) (fun w' hS => fa Tryz.underlying25 rfl ti2 rfl rfl) (edt 7 rfl (by kernel_rfl) (fun w' hS => ldb Tryz.underlying2 rfl rfl (hS.b0 ((Hold.ch H2).b0 hB)) rfl) (edt 8 rfl (by kernel_rfl) (fun w' hS => ad (a := n) (b := b) (n + b) rfl rfl (by omega)) (ed1 1 (by kernel_rfl) <| euc rfl go99 (ac rfl an) (eng_free ((Hold.ch H2d0).b0 ((Hold.ch H2).b0 hB)) ((hT.t (Hold.ch H2)).t (Hold.ch H2d0)) lt hg hu) ?_))))))))
  rintro r3 wc ⟨er, cc⟩
  rw [← hz] at er
  subst er
  have H3d : Hold w1 [] wc [] := Hold.t H2d0 cc
  clear H2d0
  clear cc
  refine ⟨.inr (Hold.ch H3d), ?_⟩
  have H4 : Hold w [] wc [] := Hold.news H2 H3d
  clear H3d H2
  refine ed1 9 (by kernel_rfl) <| eur rfl (bi rfl rfl rfl) (.inl (by kernel_rfl)) ?_
  refine edd (by kernel_rfl) ?_
  refine cf ((rfl : _ = Value.bool (decide (z < (n + b)))).trans (congrArg Value.bool (show (decide (z < (n + b))) = false from (decide_eq_false (by omega))))) ?_
  refine ex rfl ?_
  exact fin0 Tryz.results123 (Hold.ch H4)
end Go.Proofs.YtanfhikfeabidaaGreatDoor

namespace Go.Proofs.YtanfhikfeabidaaGreatDoor
open Go Go.Eng
set_option maxRecDepth 100000
set_option maxHeartbeats 4000000
set_option linter.unusedVariables false
set_option linter.unusedSimpArgs false
/-- The segment and the place in it of the next block. -/
def nAct (cs : List Int) (a us b : Int) : Int × Int := if a < 0 ∨ us = b then (fseg cs a, 0) else (a, us)
theorem mul_rng {s b a : Int} (hg : geo s b) (ha : 0 ≤ a ∧ a < s) : 0 ≤ a * b ∧ a * b + b ≤ s * b := by
  unfold geo at hg
  refine ⟨Int.mul_nonneg ha.1 (by omega), ?_⟩
  have := Int.mul_le_mul_of_nonneg_right (show a + 1 ≤ s by omega) (show 0 ≤ b by omega)
  rw [Int.add_mul] at this; omega
theorem eng_append {w : World} {F : List Nat} {ge gp gw gd gl gk : Nat} {tv : Value} {s b qn actv usd opn a' u' lid : Int} {ino : Bool} {ys : List Int} {rdf : Int → List Int} {tab : List (Int × Bool)} (h : Hs w [rB ge 60 ((eC s b gp gw gd tv qn actv usd opn gl gk)), rPl gp (logs s b + s * b) rdf, rR kE 115 tv tab, rB gl 2 ([.int .i64 (-1)])] F) (nd : F.Nodup) (hg : geo s b) (lt : tab.length ≤ 2000) (lq : ys.length = 64)
    (hA : nAct (segCounts tab s b) actv usd b = (a', u')) (ha : 0 ≤ a' ∧ a' < s) (hu : 0 ≤ u' ∧ u' < b) (hlid : 1 ≤ lid ∧ lid ≤ tab.length) :
    Ret Tryz.prog 125 #[.pointer (some ⟨ge, 0, none⟩), .int .i64 lid, .bool ino, .agg (byts ys).toArray] w (fun r w' => ∃ op', Hold w F w' [rB ge 60 ((eC s b gp gw gd tv qn a' (u' + 1) op' gl gk)), rPl gp (logs s b + s * b) (upR rdf (logs s b + a' * b + u') ys), rR kE 115 tv (tab.set (lid - 1).toNat (logs s b + a' * b + u', ino)), rB gl 2 ([.int .i64 (-1)])]) := by
  have hm := mul_rng hg ha
  have hm2 := geo_mul hg
  have hg2 := hg
  unfold geo at hg2
  have htb : 0 ≤ logs s b ∧ logs s b ≤ 200 := by unfold logs tabs; omega
  refine enter Tryz.func125 rfl Tryz.ntmps125 (by rfl) (by rfl) ?_
  have H0 : Hold w F w [rB ge 60 ((eC s b gp gw gd tv qn actv usd opn gl gk)), rPl gp (logs s b + s * b) rdf, rR kE 115 tv tab, rB gl 2 ([.int .i64 (-1)])] := Hold.begin h nd
  refine sq (rg (ef (xbx (t := 71) rfl rfl) ?_))
  rintro _ w1 ⟨g7, e1, rfl, -, b1, c1⟩
  have H1 : Hold w F w1 [rB ge 60 ((eC s b gp gw gd tv qn actv usd opn gl gk)), rPl gp (logs s b + s * b) rdf, rR kE 115 tv tab, rB gl 2 ([.int .i64 (-1)]), rB g7 71 (byts ys)] := Hold.newB H0 e1 b1 c1
  clear H0
  clear e1 b1 c1
  refine re (sq ?_)
  refine jn (α := Unit) (fun _ ρ w' => ρ 0 = .pointer (some ⟨ge, 0, none⟩) ∧ ρ 1 = .int .i64 lid ∧ ρ 2 = .bool ino ∧ ρ 7 = .pointer (some ⟨g7, 0, none⟩) ∧ Hold w F w' [rB ge 60 ((eC s b gp gw gd tv qn a' u' opn gl gk)), rPl gp (logs s b + s * b) rdf, rR kE 115 tv tab, rB gl 2 ([.int .i64 (-1)]), rB g7 71 (byts ys)]) ?_ ?_
  · have b2 : B w1 ge 60 ((eC s b gp gw gd tv qn actv usd opn gl gk)) := Hold.blk H1 0 rfl
    refine sq (rd mixed (by kernel_rfl) (q (mv rfl) (q (nck rfl) (q (fa Tryz.underlying60 rfl ti2 rfl rfl) (q (ldb Tryz.underlying2 rfl rfl b2 rfl) (q (bi rfl rfl rfl) (q (mv rfl) ?_)))))))
    refine spq 14 rfl (fun h1 => ?_) (fun h1 => ?_)
    · have hseg : numb (segs (fun c => decide (c = 0)) actv (segCounts tab s b) (segCounts tab s b).length) = a' ∧ u' = 0 := by
        unfold nAct at hA; rw [if_pos (.inl (by simpa using h1))] at hA
        rw [numb_free]; have := Prod.mk.inj hA; exact ⟨this.1, this.2.symm⟩
      have hcl := segCounts_len tab s b
      refine gnq rfl rfl rfl (gnq rfl rfl rfl (gnq rfl rfl rfl (gnq rfl rfl rfl (gnq rfl rfl rfl (gnq rfl rfl rfl (gnq rfl rfl rfl (gnq rfl rfl rfl (gnq rfl rfl rfl (gnq rfl rfl rfl (q (pk rfl rfl) (me ?_)))))))))))
      intro w1 c1
      have H2 : Hold w F w1 [rB ge 60 ((eC s b gp gw gd tv qn actv usd opn gl gk)), rPl gp (logs s b + s * b) rdf, rR kE 115 tv tab, rB gl 2 ([.int .i64 (-1)]), rB g7 71 (byts ys)] := Hold.t H1 c1
      clear H1
      refine ct rfl ?_
      refine gen (fun ρ => ρ 0 = .pointer (some ⟨ge, 0, none⟩) ∧ ρ 1 = .int .i64 lid ∧ ρ 2 = .bool ino ∧ ρ 7 = .pointer (some ⟨g7, 0, none⟩) ∧ True) ⟨rfl, rfl, rfl, rfl, trivial⟩ ?_
      rintro ρ ⟨z0, z1, z2, z7, -⟩
      refine rde_cut (fun ρ w' => ρ 0 = .pointer (some ⟨ge, 0, none⟩) ∧ ρ 1 = .int .i64 lid ∧ ρ 2 = .bool ino ∧ ρ 7 = .pointer (some ⟨g7, 0, none⟩) ∧ Hold w F w' [rB ge 60 ((eC s b gp gw gd tv qn a' 0 opn gl gk)), rPl gp (logs s b + s * b) rdf, rR kE 115 tv tab, rB gl 2 ([.int .i64 (-1)]), rB g7 71 (byts ys)]) mixed ?_ ?_
      · intro w4 c4
        have H3 : Hold w F w4 [rB ge 60 ((eC s b gp gw gd tv qn actv usd opn gl gk)), rPl gp (logs s b + s * b) rdf, rR kE 115 tv tab, rB gl 2 ([.int .i64 (-1)]), rB g7 71 (byts ys)] := Hold.t H2 c4
        clear H2
        clear c4
        obtain ⟨Fd5, hFd5, nd5, Kd5, Xd5, sd5⟩ := Hold.frontx (Γ := [rB ge 60 ((eC s b gp gw gd tv qn actv usd opn gl gk))]) (Δ := [rPl gp (logs s b + s * b) rdf, rR kE 115 tv tab, rB gl 2 ([.int .i64 (-1)]), rB g7 71 (byts ys)]) H3
        have H5d0 : Hold w4 Fd5 w4 [rB ge 60 ((eC s b gp gw gd tv qn actv usd opn gl gk))] := Hold.begin hFd5 nd5
        refine ⟨fun w' => Ch Fd5 w4 w', Ch.refl _ _, ?_⟩
        refine edt 0 rfl (by kernel_rfl) (fun w' hS => mv z0) (edt 1 rfl (by kernel_rfl) (fun w' hS => mv z0) (edt 2 rfl (by kernel_rfl) (fun w' hS => mv z0) (edt 4 rfl (by kernel_rfl) (fun w' hS => mv z0) (edt 5 rfl (by kernel_rfl) (fun w' hS => nck rfl) (edt 6 rfl (by kernel_rfl) (fun w' hS => fa Tryz.underlying60 rfl ti2 rfl rfl) ?_)))))
        refine ed2 3 7 (by kernel_rfl) ?_ ?_
        · have b7 : B w4 ge 60 ((eC s b gp gw gd tv qn actv usd opn gl gk)) := Hold.blk H5d0 0 rfl
          obtain ⟨_, R8, x8⟩ := Xd5 1 (rR kE 115 tv tab) rfl
          replace R8 := Kd.W.R R8
          refine euc rfl go139 (ac rfl an) (eng_counts b7 (R8.tt (Hold.ch H5d0) x8) lt) ?_
          rintro r3 wc Hc
          have H4d : Hold w4 Fd5 wc [rB ge 60 ((eC s b gp gw gd tv qn actv usd opn gl gk)), rR i64 2 r3 (segCounts tab s b)] := Hold.news H5d0 Hc
          clear H5d0
          clear Hc
          refine ⟨.inr (Hold.ch H4d), ?_⟩
          have b9 : B wc ge 60 ((eC s b gp gw gd tv qn actv usd opn gl gk)) := Hold.blk H4d 0 rfl
          refine ed1 7 (by kernel_rfl) <| eur rfl (ldb Tryz.underlying2 rfl rfl b9 rfl) (.inr (Hold.ch H4d)) ?_
          obtain ⟨_, R11⟩ : ∃ F, Kd.R i64 wc F r3 (segCounts tab s b) := Hold.row H4d 1 rfl
          refine ed1 8 (by kernel_rfl) <| euc rfl go150 (ac rfl (ac rfl an)) (impl_FreeSegment R11 (by omega)) ?_
          rintro r4 wf ⟨er, cf⟩
          rw [hseg.1] at er
          subst er
          have H5d : Hold w4 Fd5 wf [rB ge 60 ((eC s b gp gw gd tv qn actv usd opn gl gk)), rR i64 2 r3 (segCounts tab s b)] := Hold.t H4d cf
          clear H4d
          clear cf
          refine ⟨.inr (Hold.ch H5d), ?_⟩
          have b12 : B wf ge 60 ((eC s b gp gw gd tv qn actv usd opn gl gk)) := Hold.blk H5d 0 rfl
          refine edt 9 rfl (by kernel_rfl) (fun w' hS => nck rfl) (edt 10 rfl (by kernel_rfl) (fun w' hS => fa Tryz.underlying60 rfl ti2 rfl rfl) (ed1 11 (by kernel_rfl) <| euf0 rfl (xst (vs := [.int .i64 a']) ti2 rfl rfl (cel1 rfl) b12 rfl (Nat.le_of_ble_eq_true rfl) (one_all rfl)) ?_))
          rintro w13 ⟨-, b13, c13⟩
          have H6d : Hold w4 Fd5 w13 [rB ge 60 ((eC s b gp gw gd tv qn a' usd opn gl gk)), rR i64 2 r3 (segCounts tab s b)] := Hold.setB H5d 0 rfl b13 c13 rfl
          clear H5d
          clear b13 c13
          refine ⟨.inr (Hold.ch H6d), ?_⟩
          have H7 : Hold w F w13 [rB ge 60 ((eC s b gp gw gd tv qn a' usd opn gl gk)), rR i64 2 r3 (segCounts tab s b), rPl gp (logs s b + s * b) rdf, rR kE 115 tv tab, rB gl 2 ([.int .i64 (-1)]), rB g7 71 (byts ys)] := Hold.call Kd5 H6d
          clear H6d H3
          have b14 : B w13 ge 60 ((eC s b gp gw gd tv qn a' usd opn gl gk)) := Hold.blk H7 0 rfl
          refine edt 12 rfl (by kernel_rfl) (fun w' hS => nck rfl) (edt 13 rfl (by kernel_rfl) (fun w' hS => fa Tryz.underlying60 rfl ti2 rfl rfl) (ed1 14 (by kernel_rfl) <| euf0 rfl (xst (vs := [.int .i64 0]) ti2 rfl rfl (cel1 rfl) b14 rfl (Nat.le_of_ble_eq_true rfl) (one_all rfl)) ?_))
          rintro w15 ⟨-, b15, c15⟩
          have H8 : Hold w F w15 [rB ge 60 ((eC s b gp gw gd tv qn a' 0 opn gl gk)), rR i64 2 r3 (segCounts tab s b), rPl gp (logs s b + s * b) rdf, rR kE 115 tv tab, rB gl 2 ([.int .i64 (-1)]), rB g7 71 (byts ys)] := Hold.setB H7 0 rfl b15 c15 rfl
          clear H7
          clear b15 c15
          refine ⟨.inl (by kernel_rfl), ?_⟩
          refine edd (by kernel_rfl) ?_
          have H9 : Hold w F w15 [rB ge 60 ((eC s b gp gw gd tv qn a' 0 opn gl gk)), rPl gp (logs s b + s * b) rdf, rR kE 115 tv tab, rB gl 2 ([.int .i64 (-1)]), rB g7 71 (byts ys)] := (show Hold w F w15 ([rB ge 60 ((eC s b gp gw gd tv qn a' 0 opn gl gk)), rPl gp (logs s b + s * b) rdf, rR kE 115 tv tab, rB gl 2 ([.int .i64 (-1)]), rB g7 71 (byts ys)] ++ [rR i64 2 r3 (segCounts tab s b)]) from Hold.re H8 [0, 2, 3, 4, 5, 1] (by kernel_rfl) (by rfl)).drop
          clear H8
          exact ⟨z0, z1, z2, z7, H9⟩
        · have b6 : B w4 ge 60 ((eC s b gp gw gd tv qn actv usd opn gl gk)) := Hold.blk H5d0 0 rfl
          refine eur rfl (ldb Tryz.underlying2 rfl rfl b6 rfl) (.inr (Hold.ch H5d0)) ?_
          obtain ⟨_, R8, x8⟩ := Xd5 1 (rR kE 115 tv tab) rfl
          replace R8 := Kd.W.R R8
          refine ed1 3 (by kernel_rfl) <| euc rfl go139 (ac rfl an) (eng_counts b6 (R8.tt (Hold.ch H5d0) x8) lt) ?_
          rintro r3 wc Hc
          have H4d : Hold w4 Fd5 wc [rB ge 60 ((eC s b gp gw gd tv qn actv usd opn gl gk)), rR i64 2 r3 (segCounts tab s b)] := Hold.news H5d0 Hc
          clear H5d0
          clear Hc
          refine ⟨.inr (Hold.ch H4d), ?_⟩
          obtain ⟨_, R10⟩ : ∃ F, Kd.R i64 wc F r3 (segCounts tab s b) := Hold.row H4d 1 rfl
          refine ed1 8 (by kernel_rfl) <| euc rfl go150 (ac rfl (ac rfl an)) (impl_FreeSegment R10 (by omega)) ?_
          rintro r4 wf ⟨er, cf⟩
          rw [hseg.1] at er
          subst er
          have H5d : Hold w4 Fd5 wf [rB ge 60 ((eC s b gp gw gd tv qn actv usd opn gl gk)), rR i64 2 r3 (segCounts tab s b)] := Hold.t H4d cf
          clear H4d
          clear cf
          refine ⟨.inr (Hold.ch H5d), ?_⟩
          have b11 : B wf ge 60 ((eC s b gp gw gd tv qn actv usd opn gl gk)) := Hold.blk H5d 0 rfl
          refine edt 9 rfl (by kernel_rfl) (fun w' hS => nck rfl) (edt 10 rfl (by kernel_rfl) (fun w' hS => fa Tryz.underlying60 rfl ti2 rfl rfl) (ed1 11 (by kernel_rfl) <| euf0 rfl (xst (vs := [.int .i64 a']) ti2 rfl rfl (cel1 rfl) b11 rfl (Nat.le_of_ble_eq_true rfl) (one_all rfl)) ?_))
          rintro w12 ⟨-, b12, c12⟩
          have H6d : Hold w4 Fd5 w12 [rB ge 60 ((eC s b gp gw gd tv qn a' usd opn gl gk)), rR i64 2 r3 (segCounts tab s b)] := Hold.setB H5d 0 rfl b12 c12 rfl
          clear H5d
          clear b12 c12
          refine ⟨.inr (Hold.ch H6d), ?_⟩
          have H7 : Hold w F w12 [rB ge 60 ((eC s b gp gw gd tv qn a' usd opn gl gk)), rR i64 2 r3 (segCounts tab s b), rPl gp (logs s b + s * b) rdf, rR kE 115 tv tab, rB gl 2 ([.int .i64 (-1)]), rB g7 71 (byts ys)] := Hold.call Kd5 H6d
          clear H6d H3
          have b13 : B w12 ge 60 ((eC s b gp gw gd tv qn a' usd opn gl gk)) := Hold.blk H7 0 rfl
          refine edt 12 rfl (by kernel_rfl) (fun w' hS => nck rfl) (edt 13 rfl (by kernel_rfl) (fun w' hS => fa Tryz.underlying60 rfl ti2 rfl rfl) (ed1 14 (by kernel_rfl) <| euf0 rfl (xst (vs := [.int .i64 0]) ti2 rfl rfl (cel1 rfl) b13 rfl (Nat.le_of_ble_eq_true rfl) (one_all rfl)) ?_))
          rintro w14 ⟨-, b14, c14⟩
          have H8 : Hold w F w14 [rB ge 60 ((eC s b gp gw gd tv qn a' 0 opn gl gk)), rR i64 2 r3 (segCounts tab s b), rPl gp (logs s b + s * b) rdf, rR kE 115 tv tab, rB gl 2 ([.int .i64 (-1)]), rB g7 71 (byts ys)] := Hold.setB H7 0 rfl b14 c14 rfl
          clear H7
          clear b14 c14
          refine ⟨.inl (by kernel_rfl), ?_⟩
          refine edd (by kernel_rfl) ?_
          have H9 : Hold w F w14 [rB ge 60 ((eC s b gp gw gd tv qn a' 0 opn gl gk)), rPl gp (logs s b + s * b) rdf, rR kE 115 tv tab, rB gl 2 ([.int .i64 (-1)]), rB g7 71 (byts ys)] := (show Hold w F w14 ([rB ge 60 ((eC s b gp gw gd tv qn a' 0 opn gl gk)), rPl gp (logs s b + s * b) rdf, rR kE 115 tv tab, rB gl 2 ([.int .i64 (-1)]), rB g7 71 (byts ys)] ++ [rR i64 2 r3 (segCounts tab s b)]) from Hold.re H8 [0, 2, 3, 4, 5, 1] (by kernel_rfl) (by rfl)).drop
          clear H8
          exact ⟨z0, z1, z2, z7, H9⟩
      rintro ρ w552 ⟨y0, y1, y2, y7, H52⟩
      clear H2
      exact je () ⟨y0, y1, y2, y7, (by rw [hseg.2]; exact H52)⟩
    · refine gyq rfl rfl rfl (q (mv rfl) (gyq rfl rfl rfl (q (nck rfl) (gyq rfl rfl rfl (q (fa Tryz.underlying60 rfl ti2 rfl rfl) (gyq rfl rfl rfl (q (ldb Tryz.underlying2 rfl rfl b2 rfl) (gyq rfl rfl rfl (q (mv rfl) (gyq rfl rfl rfl (q (nck rfl) (gyq rfl rfl rfl (q (fa Tryz.underlying60 rfl ti25 rfl rfl) (gyq rfl rfl rfl (q (fa Tryz.underlying25 rfl ti2 rfl rfl) (gyq rfl rfl rfl (q (ldb Tryz.underlying2 rfl rfl b2 rfl) (gyq rfl rfl rfl (q (bi rfl rfl rfl) (q (pk rfl rfl) (me ?_)))))))))))))))))))))
      intro w1 c1
      have H2 : Hold w F w1 [rB ge 60 ((eC s b gp gw gd tv qn actv usd opn gl gk)), rPl gp (logs s b + s * b) rdf, rR kE 115 tv tab, rB gl 2 ([.int .i64 (-1)]), rB g7 71 (byts ys)] := Hold.t H1 c1
      clear H1
      refine cp rfl (fun h2 => ?_) (fun h2 => ?_)
      · have hseg : numb (segs (fun c => decide (c = 0)) actv (segCounts tab s b) (segCounts tab s b).length) = a' ∧ u' = 0 := by
          unfold nAct at hA; rw [if_pos (.inr (by simpa using h2))] at hA
          rw [numb_free]; have := Prod.mk.inj hA; exact ⟨this.1, this.2.symm⟩
        have hcl := segCounts_len tab s b
        refine gen (fun ρ => ρ 0 = .pointer (some ⟨ge, 0, none⟩) ∧ ρ 1 = .int .i64 lid ∧ ρ 2 = .bool ino ∧ ρ 7 = .pointer (some ⟨g7, 0, none⟩) ∧ True) ⟨rfl, rfl, rfl, rfl, trivial⟩ ?_
        rintro ρ ⟨z0, z1, z2, z7, -⟩
        refine rde_cut (fun ρ w' => ρ 0 = .pointer (some ⟨ge, 0, none⟩) ∧ ρ 1 = .int .i64 lid ∧ ρ 2 = .bool ino ∧ ρ 7 = .pointer (some ⟨g7, 0, none⟩) ∧ Hold w F w' [rB ge 60 ((eC s b gp gw gd tv qn a' 0 opn gl gk)), rPl gp (logs s b + s * b) rdf, rR kE 115 tv tab, rB gl 2 ([.int .i64 (-1)]), rB g7 71 (byts ys)]) mixed ?_ ?_
        · intro w4 c4
          have H3 : Hold w F w4 [rB ge 60 ((eC s b gp gw gd tv qn actv usd opn gl gk)), rPl gp (logs s b + s * b) rdf, rR kE 115 tv tab, rB gl 2 ([.int .i64 (-1)]), rB g7 71 (byts ys)] := Hold.t H2 c4
          clear H2
          clear c4
          obtain ⟨Fd5, hFd5, nd5, Kd5, Xd5, sd5⟩ := Hold.frontx (Γ := [rB ge 60 ((eC s b gp gw gd tv qn actv usd opn gl gk))]) (Δ := [rPl gp (logs s b + s * b) rdf, rR kE 115 tv tab, rB gl 2 ([.int .i64 (-1)]), rB g7 71 (byts ys)]) H3
          have H5d0 : Hold w4 Fd5 w4 [rB ge 60 ((eC s b gp gw gd tv qn actv usd opn gl gk))] := Hold.begin hFd5 nd5
          refine ⟨fun w' => Ch Fd5 w4 w', Ch.refl _ _, ?_⟩
          refine edt 0 rfl (by kernel_rfl) (fun w' hS => mv z0) (edt 1 rfl (by kernel_rfl) (fun w' hS => mv z0) (edt 2 rfl (by kernel_rfl) (fun w' hS => mv z0) (edt 4 rfl (by kernel_rfl) (fun w' hS => mv z0) (edt 5 rfl (by kernel_rfl) (fun w' hS => nck rfl) (edt 6 rfl (by kernel_rfl) (fun w' hS => fa Tryz.underlying60 rfl ti2 rfl rfl) ?_)))))
          refine ed2 3 7 (by kernel_rfl) ?_ ?_
          · have b7 : B w4 ge 60 ((eC s b gp gw gd tv qn actv usd opn gl gk)) := Hold.blk H5d0 0 rfl
            obtain ⟨_, R8, x8⟩ := Xd5 1 (rR kE 115 tv tab) rfl
            replace R8 := Kd.W.R R8
            refine euc rfl go139 (ac rfl an) (eng_counts b7 (R8.tt (Hold.ch H5d0) x8) lt) ?_
            rintro r3 wc Hc
            have H4d : Hold w4 Fd5 wc [rB ge 60 ((eC s b gp gw gd tv qn actv usd opn gl gk)), rR i64 2 r3 (segCounts tab s b)] := Hold.news H5d0 Hc
            clear H5d0
            clear Hc
            refine ⟨.inr (Hold.ch H4d), ?_⟩
            have b9 : B wc ge 60 ((eC s b gp gw gd tv qn actv usd opn gl gk)) := Hold.blk H4d 0 rfl
            refine ed1 7 (by kernel_rfl) <| eur rfl (ldb Tryz.underlying2 rfl rfl b9 rfl) (.inr (Hold.ch H4d)) ?_
            obtain ⟨_, R11⟩ : ∃ F, Kd.R i64 wc F r3 (segCounts tab s b) := Hold.row H4d 1 rfl
            refine ed1 8 (by kernel_rfl) <| euc rfl go150 (ac rfl (ac rfl an)) (impl_FreeSegment R11 (by omega)) ?_
            rintro r4 wf ⟨er, cf⟩
            rw [hseg.1] at er
            subst er
            have H5d : Hold w4 Fd5 wf [rB ge 60 ((eC s b gp gw gd tv qn actv usd opn gl gk)), rR i64 2 r3 (segCounts tab s b)] := Hold.t H4d cf
            clear H4d
            clear cf
            refine ⟨.inr (Hold.ch H5d), ?_⟩
            have b12 : B wf ge 60 ((eC s b gp gw gd tv qn actv usd opn gl gk)) := Hold.blk H5d 0 rfl
            refine edt 9 rfl (by kernel_rfl) (fun w' hS => nck rfl) (edt 10 rfl (by kernel_rfl) (fun w' hS => fa Tryz.underlying60 rfl ti2 rfl rfl) (ed1 11 (by kernel_rfl) <| euf0 rfl (xst (vs := [.int .i64 a']) ti2 rfl rfl (cel1 rfl) b12 rfl (Nat.le_of_ble_eq_true rfl) (one_all rfl)) ?_))
            rintro w13 ⟨-, b13, c13⟩
            have H6d : Hold w4 Fd5 w13 [rB ge 60 ((eC s b gp gw gd tv qn a' usd opn gl gk)), rR i64 2 r3 (segCounts tab s b)] := Hold.setB H5d 0 rfl b13 c13 rfl
            clear H5d
            clear b13 c13
            refine ⟨.inr (Hold.ch H6d), ?_⟩
            have H7 : Hold w F w13 [rB ge 60 ((eC s b gp gw gd tv qn a' usd opn gl gk)), rR i64 2 r3 (segCounts tab s b), rPl gp (logs s b + s * b) rdf, rR kE 115 tv tab, rB gl 2 ([.int .i64 (-1)]), rB g7 71 (byts ys)] := Hold.call Kd5 H6d
            clear H6d H3
            have b14 : B w13 ge 60 ((eC s b gp gw gd tv qn a' usd opn gl gk)) := Hold.blk H7 0 rfl
            refine edt 12 rfl (by kernel_rfl) (fun w' hS => nck rfl) (edt 13 rfl (by kernel_rfl) (fun w' hS => fa Tryz.underlying60 rfl ti2 rfl rfl) (ed1 14 (by kernel_rfl) <| euf0 rfl (xst (vs := [.int .i64 0]) ti2 rfl rfl (cel1 rfl) b14 rfl (Nat.le_of_ble_eq_true rfl) (one_all rfl)) ?_))
            rintro w15 ⟨-, b15, c15⟩
            have H8 : Hold w F w15 [rB ge 60 ((eC s b gp gw gd tv qn a' 0 opn gl gk)), rR i64 2 r3 (segCounts tab s b), rPl gp (logs s b + s * b) rdf, rR kE 115 tv tab, rB gl 2 ([.int .i64 (-1)]), rB g7 71 (byts ys)] := Hold.setB H7 0 rfl b15 c15 rfl
            clear H7
            clear b15 c15
            refine ⟨.inl (by kernel_rfl), ?_⟩
            refine edd (by kernel_rfl) ?_
            have H9 : Hold w F w15 [rB ge 60 ((eC s b gp gw gd tv qn a' 0 opn gl gk)), rPl gp (logs s b + s * b) rdf, rR kE 115 tv tab, rB gl 2 ([.int .i64 (-1)]), rB g7 71 (byts ys)] := (show Hold w F w15 ([rB ge 60 ((eC s b gp gw gd tv qn a' 0 opn gl gk)), rPl gp (logs s b + s * b) rdf, rR kE 115 tv tab, rB gl 2 ([.int .i64 (-1)]), rB g7 71 (byts ys)] ++ [rR i64 2 r3 (segCounts tab s b)]) from Hold.re H8 [0, 2, 3, 4, 5, 1] (by kernel_rfl) (by rfl)).drop
            clear H8
            exact ⟨z0, z1, z2, z7, H9⟩
          · have b6 : B w4 ge 60 ((eC s b gp gw gd tv qn actv usd opn gl gk)) := Hold.blk H5d0 0 rfl
            refine eur rfl (ldb Tryz.underlying2 rfl rfl b6 rfl) (.inr (Hold.ch H5d0)) ?_
            obtain ⟨_, R8, x8⟩ := Xd5 1 (rR kE 115 tv tab) rfl
            replace R8 := Kd.W.R R8
            refine ed1 3 (by kernel_rfl) <| euc rfl go139 (ac rfl an) (eng_counts b6 (R8.tt (Hold.ch H5d0) x8) lt) ?_
            rintro r3 wc Hc
            have H4d : Hold w4 Fd5 wc [rB ge 60 ((eC s b gp gw gd tv qn actv usd opn gl gk)), rR i64 2 r3 (segCounts tab s b)] := Hold.news H5d0 Hc
            clear H5d0
            clear Hc
            refine ⟨.inr (Hold.ch H4d), ?_⟩
            obtain ⟨_, R10⟩ : ∃ F, Kd.R i64 wc F r3 (segCounts tab s b) := Hold.row H4d 1 rfl
            refine ed1 8 (by kernel_rfl) <| euc rfl go150 (ac rfl (ac rfl an)) (impl_FreeSegment R10 (by omega)) ?_
            rintro r4 wf ⟨er, cf⟩
            rw [hseg.1] at er
            subst er
            have H5d : Hold w4 Fd5 wf [rB ge 60 ((eC s b gp gw gd tv qn actv usd opn gl gk)), rR i64 2 r3 (segCounts tab s b)] := Hold.t H4d cf
            clear H4d
            clear cf
            refine ⟨.inr (Hold.ch H5d), ?_⟩
            have b11 : B wf ge 60 ((eC s b gp gw gd tv qn actv usd opn gl gk)) := Hold.blk H5d 0 rfl
            refine edt 9 rfl (by kernel_rfl) (fun w' hS => nck rfl) (edt 10 rfl (by kernel_rfl) (fun w' hS => fa Tryz.underlying60 rfl ti2 rfl rfl) (ed1 11 (by kernel_rfl) <| euf0 rfl (xst (vs := [.int .i64 a']) ti2 rfl rfl (cel1 rfl) b11 rfl (Nat.le_of_ble_eq_true rfl) (one_all rfl)) ?_))
            rintro w12 ⟨-, b12, c12⟩
            have H6d : Hold w4 Fd5 w12 [rB ge 60 ((eC s b gp gw gd tv qn a' usd opn gl gk)), rR i64 2 r3 (segCounts tab s b)] := Hold.setB H5d 0 rfl b12 c12 rfl
            clear H5d
            clear b12 c12
            refine ⟨.inr (Hold.ch H6d), ?_⟩
            have H7 : Hold w F w12 [rB ge 60 ((eC s b gp gw gd tv qn a' usd opn gl gk)), rR i64 2 r3 (segCounts tab s b), rPl gp (logs s b + s * b) rdf, rR kE 115 tv tab, rB gl 2 ([.int .i64 (-1)]), rB g7 71 (byts ys)] := Hold.call Kd5 H6d
            clear H6d H3
            have b13 : B w12 ge 60 ((eC s b gp gw gd tv qn a' usd opn gl gk)) := Hold.blk H7 0 rfl
            refine edt 12 rfl (by kernel_rfl) (fun w' hS => nck rfl) (edt 13 rfl (by kernel_rfl) (fun w' hS => fa Tryz.underlying60 rfl ti2 rfl rfl) (ed1 14 (by kernel_rfl) <| euf0 rfl (xst (vs := [.int .i64 0]) ti2 rfl rfl (cel1 rfl) b13 rfl (Nat.le_of_ble_eq_true rfl) (one_all rfl)) ?_))
            rintro w14 ⟨-, b14, c14⟩
            have H8 : Hold w F w14 [rB ge 60 ((eC s b gp gw gd tv qn a' 0 opn gl gk)), rR i64 2 r3 (segCounts tab s b), rPl gp (logs s b + s * b) rdf, rR kE 115 tv tab, rB gl 2 ([.int .i64 (-1)]), rB g7 71 (byts ys)] := Hold.setB H7 0 rfl b14 c14 rfl
            clear H7
            clear b14 c14
            refine ⟨.inl (by kernel_rfl), ?_⟩
            refine edd (by kernel_rfl) ?_
            have H9 : Hold w F w14 [rB ge 60 ((eC s b gp gw gd tv qn a' 0 opn gl gk)), rPl gp (logs s b + s * b) rdf, rR kE 115 tv tab, rB gl 2 ([.int .i64 (-1)]), rB g7 71 (byts ys)] := (show Hold w F w14 ([rB ge 60 ((eC s b gp gw gd tv qn a' 0 opn gl gk)), rPl gp (logs s b + s * b) rdf, rR kE 115 tv tab, rB gl 2 ([.int .i64 (-1)]), rB g7 71 (byts ys)] ++ [rR i64 2 r3 (segCounts tab s b)]) from Hold.re H8 [0, 2, 3, 4, 5, 1] (by kernel_rfl) (by rfl)).drop
            clear H8
            exact ⟨z0, z1, z2, z7, H9⟩
        rintro ρ w552 ⟨y0, y1, y2, y7, H52⟩
        clear H2
        exact je () ⟨y0, y1, y2, y7, (by rw [hseg.2]; exact H52)⟩
      · have eA : actv = a' ∧ usd = u' := by
          unfold nAct at hA; rw [if_neg (fun e => by rcases e with e | e <;> omega)] at hA
          exact ⟨(Prod.mk.inj hA).1, (Prod.mk.inj hA).2⟩
        refine sk ?_
        exact je () ⟨rfl, rfl, rfl, rfl, (by rw [← eA.1, ← eA.2]; exact H2)⟩
  · rintro _ ρ w561 ⟨y0, y1, y2, y7, H61⟩
    clear H1
    have b302 : B w561 ge 60 ((eC s b gp gw gd tv qn a' u' opn gl gk)) := Hold.blk H61 0 rfl
    refine sq (rd mixed (by kernel_rfl) (q (mv y0) (q (nck rfl) (q (fa Tryz.underlying60 rfl ti51 rfl rfl) (q (fa Tryz.underlying51 rfl ti2 rfl rfl) (q (ldb Tryz.underlying2 rfl rfl b302 rfl) (q (mv y0) (q (nck rfl) (q (fa Tryz.underlying60 rfl ti2 rfl rfl) (q (ldb Tryz.underlying2 rfl rfl b302 rfl) (q (mv y0) (q (nck rfl) (q (fa Tryz.underlying60 rfl ti25 rfl rfl) (q (fa Tryz.underlying25 rfl ti2 rfl rfl) (q (ldb Tryz.underlying2 rfl rfl b302 rfl) (q (ml (a := a') (b := b) (a' * b) rfl rfl (by omega)) (q (ad (a := logs s b) (b := a' * b) (logs s b + a' * b) rfl rfl (by omega)) (q (mv y0) (q (nck rfl) (q (fa Tryz.underlying60 rfl ti2 rfl rfl) (q (ldb Tryz.underlying2 rfl rfl b302 rfl) (q (ad (a := logs s b + a' * b) (b := u') (logs s b + a' * b + u') rfl rfl (by omega)) (q (sa rfl) (me ?_))))))))))))))))))))))))
    intro w1 c1
    have H62 : Hold w F w1 [rB ge 60 ((eC s b gp gw gd tv qn a' u' opn gl gk)), rPl gp (logs s b + s * b) rdf, rR kE 115 tv tab, rB gl 2 ([.int .i64 (-1)]), rB g7 71 (byts ys)] := Hold.t H61 c1
    clear H61
    refine sq ?_
    refine gen (fun ρ => ρ 0 = .pointer (some ⟨ge, 0, none⟩) ∧ ρ 1 = .int .i64 lid ∧ ρ 2 = .bool ino ∧ ρ 7 = .pointer (some ⟨g7, 0, none⟩) ∧ ρ 8 = .int .i64 (logs s b + a' * b + u') ∧ True) ⟨y0, y1, y2, y7, rfl, trivial⟩ ?_
    rintro ρ ⟨z0, z1, z2, z7, z8, -⟩
    have H63 : Hold w F w1 [rB ge 60 ((eC s b gp gw gd tv qn a' u' opn gl gk)), rPl gp (logs s b + s * b) rdf, rB gl 2 ([.int .i64 (-1)]), rB g7 71 (byts ys), rR kE 115 tv tab] := Hold.re H62 [0, 1, 3, 4, 2] (by kernel_rfl) (by rfl)
    clear H62
    obtain ⟨F303, hF303, n303, s303, K303⟩ := Hold.front (Γ := [rB ge 60 ((eC s b gp gw gd tv qn a' u' opn gl gk)), rPl gp (logs s b + s * b) rdf, rB gl 2 ([.int .i64 (-1)]), rB g7 71 (byts ys)]) (Δ := [rR kE 115 tv tab]) H63
    refine rg (r (mv z0) (r (mv z8) (r (sla Tryz.underlying71 ti5 z7) (cl go136 (eng_put hF303 n303 lq (by omega)) (ac rfl (ac rfl (ac rfl an))) ?_))))
    rintro _ wq ⟨op', Hq⟩
    have H64 : Hold w F wq [rB ge 60 ((eC s b gp gw gd tv qn a' u' op' gl gk)), rPl gp (logs s b + s * b) (upR rdf (logs s b + a' * b + u') ys), rB gl 2 ([.int .i64 (-1)]), rB g7 71 (byts ys), rR kE 115 tv tab] := Hold.call K303 Hq
    clear H63
    clear K303 hF303 n303 s303
    clear Hq
    have b304 : B wq ge 60 ((eC s b gp gw gd tv qn a' u' op' gl gk)) := Hold.blk H64 0 rfl
    refine re (sq (rg (r (mv z0) (r (nck rfl) (r (fa Tryz.underlying60 rfl ti2 rfl rfl) (r (ldb Tryz.underlying2 rfl rfl b304 rfl) (r (ad (a := u') (b := 1) (u' + 1) rfl rfl (by omega)) (r (nck rfl) (r (fa Tryz.underlying60 rfl ti2 rfl rfl) (ef0 (xst (vs := [.int .i64 (u' + 1)]) ti2 rfl rfl (cel1 rfl) b304 rfl (Nat.le_of_ble_eq_true rfl) (one_all rfl)) ?_))))))))))
    rintro w305 ⟨-, b305, c305⟩
    have H65 : Hold w F w305 [rB ge 60 ((eC s b gp gw gd tv qn a' (u' + 1) op' gl gk)), rPl gp (logs s b + s * b) (upR rdf (logs s b + a' * b + u') ys), rB gl 2 ([.int .i64 (-1)]), rB g7 71 (byts ys), rR kE 115 tv tab] := Hold.setB H64 0 rfl b305 c305 rfl
    clear H64
    clear b305 c305
    refine re ?_
    refine gen (fun ρ => ρ 0 = .pointer (some ⟨ge, 0, none⟩) ∧ ρ 1 = .int .i64 lid ∧ ρ 2 = .bool ino ∧ ρ 8 = .int .i64 (logs s b + a' * b + u') ∧ True) ⟨z0, z1, z2, z8, trivial⟩ ?_
    rintro ρ ⟨z0, z1, z2, z8, -⟩
    have b306 : B w305 ge 60 ((eC s b gp gw gd tv qn a' (u' + 1) op' gl gk)) := Hold.blk H65 0 rfl
    obtain ⟨F308, P308, n308, s308, K308⟩ := Hold.pick H65 4 rfl
    replace P308 : Kd.W kE 115 w305 F308 tv tab := P308
    refine rg (r (mv z0) (r (nck rfl) (r (fa Tryz.underlying60 rfl ti58 rfl rfl) (r (ldb Tryz.underlying58 rfl rfl b306 rfl) (r (mv z1) (r (sb (a := lid) (b := 1) ((((lid - 1).toNat : Nat) : Int)) rfl rfl (by omega)) (r (mv z8) (r (mv z2) (r (bd (r := [.int .i64 (logs s b + a' * b + u'), .bool ino]) ti115 pl115 (pc rfl (cel1 rfl) (pc rfl (cel1 rfl) pn)) rfl) (ixs (a := (logs s b + a' * b + u', ino)) (j := (lid - 1).toNat) Tryz.underlying58 ti115 rfl P308 rfl (by omega) (fun _ => rfl) ⟨[], [], [_], [_], rfl, rfl, ⟨rfl, rfl⟩, ⟨rfl, rfl⟩⟩ (nodup_nil n308) ?_))))))))))
    intro _ w307 F307 s307 A307
    have H66 : Hold w F w307 [rB ge 60 ((eC s b gp gw gd tv qn a' (u' + 1) op' gl gk)), rPl gp (logs s b + s * b) (upR rdf (logs s b + a' * b + u') ys), rB gl 2 ([.int .i64 (-1)]), rB g7 71 (byts ys), rR kE 115 tv (tab.set ((lid - 1).toNat) (logs s b + a' * b + u', ino))] := Hold.apd K308 P308 A307 rfl
    clear H65
    clear A307 K308 P308 n308 s308 s307
    refine re ?_
    have H67 : Hold w F w307 [rB ge 60 ((eC s b gp gw gd tv qn a' (u' + 1) op' gl gk)), rPl gp (logs s b + s * b) (upR rdf (logs s b + a' * b + u') ys), rR kE 115 tv (tab.set ((lid - 1).toNat) (logs s b + a' * b + u', ino)), rB gl 2 ([.int .i64 (-1)])] := (show Hold w F w307 ([rB ge 60 ((eC s b gp gw gd tv qn a' (u' + 1) op' gl gk)), rPl gp (logs s b + s * b) (upR rdf (logs s b + a' * b + u') ys), rR kE 115 tv (tab.set ((lid - 1).toNat) (logs s b + a' * b + u', ino)), rB gl 2 ([.int .i64 (-1)])] ++ [rB g7 71 (byts ys)]) from Hold.re H66 [0, 1, 4, 2, 3] (by kernel_rfl) (by rfl)).drop
    clear H66
    exact fin0 Tryz.results125 ⟨_, H67⟩
end Go.Proofs.YtanfhikfeabidaaGreatDoor

namespace Go.Proofs.YtanfhikfeabidaaGreatDoor
open Go Go.Eng
set_option maxRecDepth 100000
set_option maxHeartbeats 4000000
set_option linter.unusedVariables false
set_option linter.unusedSimpArgs false
def ownT (t : List (Int × Bool)) (p : Int → Bool) : List (Int × Bool) := (List.range t.length).map (fun i : Nat => if p ((i : Int) + 1) = true then t.getD i (0, false) else (0, false))
theorem ownT_len (t : List (Int × Bool)) (p : Int → Bool) : (ownT t p).length = t.length := by simp [ownT]
theorem ownT_get {t : List (Int × Bool)} {p : Int → Bool} {i : Nat} (h : i < t.length) : (ownT t p)[i]'(by rw [ownT_len]; exact h) = if p ((i : Int) + 1) = true then t[i] else (0, false) := by
  simp [ownT, List.getD, h]
theorem ownT_congr {t : List (Int × Bool)} {p q : Int → Bool} (h : ∀ i : Nat, i < t.length → p ((i : Int) + 1) = q ((i : Int) + 1)) : ownT t p = ownT t q := by
  apply List.ext_getElem (by rw [ownT_len, ownT_len])
  intro i h1 h2
  rw [ownT_len] at h1
  rw [ownT_get h1, ownT_get h1, h i h1]
theorem ownT_none (t : List (Int × Bool)) : ownT t (fun _ => false) = List.replicate t.length (0, false) := by
  apply List.ext_getElem (by simp [ownT_len])
  intro i h1 h2
  rw [ownT_len] at h1
  rw [ownT_get h1]; simp
theorem ownT_set {t : List (Int × Bool)} {p : Int → Bool} {l : Int} {k : Nat} (hk : k < t.length) (hl : (k : Int) + 1 = l) : (ownT t p).set k t[k] = ownT t (fun x => p x || decide (x = l)) := by
  apply List.ext_getElem (by simp [ownT_len])
  intro i h1 h2
  rw [ownT_len] at h2
  rw [List.getElem_set, ownT_get (p := fun x => p x || decide (x = l)) h2]
  by_cases e : k = i
  · subst e; simp [hl]
  · rw [if_neg e, ownT_get h2]
    have : ¬ ((i : Int) + 1 = l) := by omega
    simp [this]
def ownK (k : Kf) (l : Int) : Bool := (k.lid :: k.ls).contains l
def ownB (V : List Kf) (l : Int) : Bool := V.any (fun k => ownK k l)
theorem ownB_congr {V W : List Kf} (h : ∀ k, k ∈ V ↔ k ∈ W) (l : Int) : ownB V l = ownB W l := by
  rw [Bool.eq_iff_iff]; simp only [ownB, List.any_eq_true]
  exact ⟨fun ⟨k, h1, h2⟩ => ⟨k, (h k).1 h1, h2⟩, fun ⟨k, h1, h2⟩ => ⟨k, (h k).2 h1, h2⟩⟩
theorem take_con {ls : List Int} {j : Nat} (h : j < ls.length) (x : Int) : (ls.take (j + 1)).contains x = ((ls.take j).contains x || decide (x = ls[j])) := by
  rw [Bool.eq_iff_iff]
  simp only [List.contains_iff_mem, Bool.or_eq_true, decide_eq_true_eq]
  rw [List.take_succ_eq_append_getElem h, List.mem_append, List.mem_singleton]
structure KfOk (N : Int) (pl : List (Value × List Int)) (k : Kf) : Prop where
  lid : 1 ≤ k.lid ∧ k.lid ≤ N
  ls : ∀ l, l ∈ k.ls → 1 ≤ l ∧ l ≤ N
  num : k.ls.length ≤ 100
  pool : (k.lv, k.ls) ∈ pl
  ocell : k.lv.oneCell' = true
theorem KfOk.one {N : Int} {pl : List (Value × List Int)} {k : Kf} (h : KfOk N pl k) {j : Nat} (hj : j < (k.lid :: k.ls).length) : 1 ≤ (k.lid :: k.ls)[j] ∧ (k.lid :: k.ls)[j] ≤ N := by
  cases j with
  | zero => exact h.lid
  | succ j => exact h.ls _ (List.getElem_mem (by simpa using hj))
theorem eng_only {w : World} {F : List Nat} {ge gp gw gd gl gk gm : Nat} {tv : Value} {s b qn actv usd opn : Int} {tab : List (Int × Bool)} {wk : List Kf} {pl : List (Value × List Int)} (h : Hs w [rB ge 60 ((eC s b gp gw gd tv qn actv usd opn gl gk)), rR kE 115 tv tab, rMW gm (wk.map kfP), rPool 2 pl] F) (nd : F.Nodup) (lt : tab.length ≤ 2000)
    (hwk : ∀ k, k ∈ wk → KfOk tab.length pl k) : Ret Tryz.prog 97 #[.pointer (some ⟨ge, 0, none⟩), .agg #[.map (some gm)]] w (fun r w' => Hold w F w' [rB ge 60 ((eC s b gp gw gd tv qn actv usd opn gl gk)), rR kE 115 tv tab, rMW gm (wk.map kfP), rPool 2 pl, rR kE 115 r (ownT tab (ownB wk))]) := by
  refine enter Tryz.func97 rfl Tryz.ntmps97 (by rfl) (by rfl) ?_
  have H0 : Hold w F w [rB ge 60 ((eC s b gp gw gd tv qn actv usd opn gl gk)), rR kE 115 tv tab, rMW gm (wk.map kfP), rPool 2 pl] := Hold.begin h nd
  refine sq (rg (ef (xbx (t := 54) rfl rfl) ?_))
  rintro _ w1 ⟨g3, e1, rfl, -, b1, c1⟩
  have H1 : Hold w F w1 [rB ge 60 ((eC s b gp gw gd tv qn actv usd opn gl gk)), rR kE 115 tv tab, rMW gm (wk.map kfP), rPool 2 pl, rB g3 54 ([.map (some gm)])] := Hold.newB H0 e1 b1 c1
  clear H0
  clear e1 b1 c1
  have b2 : B w1 ge 60 ((eC s b gp gw gd tv qn actv usd opn gl gk)) := Hold.blk H1 0 rfl
  obtain ⟨_, R3⟩ : ∃ F, Kd.R kE w1 F tv tab := Hold.row H1 1 rfl
  refine r (sa rfl) (re (sq (rg (r (mv rfl) (r (nck rfl) (r (fa Tryz.underlying60 rfl ti58 rfl rfl) (r (ldb Tryz.underlying58 rfl rfl b2 rfl) (r (ln Tryz.underlying58 rfl (R3)) (ef (xmk (dk := kE) (m := tab.length) (0, false) Tryz.underlying58 ti115 (fun _ => ⟨[], [], [_], [_], rfl, rfl, ⟨rfl, rfl⟩, ⟨rfl, rfl⟩⟩) rfl rfl (by omega)) ?_)))))))))
  rintro v4 w4 N4
  have H2 : Hold w F w4 [rB ge 60 ((eC s b gp gw gd tv qn actv usd opn gl gk)), rR kE 115 tv tab, rMW gm (wk.map kfP), rPool 2 pl, rB g3 54 ([.map (some gm)]), rR kE 115 v4 (List.replicate tab.length (0, false))] := Hold.newr H1 N4
  clear H1
  have b5 : B w4 g3 54 ([.map (some gm)]) := Hold.blk H2 4 rfl
  have b6 : MpW w4 gm (wk.map kfP) := Hold.mpw H2 2 rfl
  refine r (sa rfl) (re (sq (sq (rg (r (fa Tryz.underlying54 rfl ti52 rfl rfl) (r (ldb Tryz.underlying52 rfl rfl b5 rfl) (ef (xrng Tryz.underlying52 rfl b6) ?_)))))))
  rintro _ w7 ⟨r18, e7, rfl, b7, c7⟩
  have H3 : Hold w F w7 [rB ge 60 ((eC s b gp gw gd tv qn actv usd opn gl gk)), rR kE 115 tv tab, rMR gm r18 (wk.map kfP) (wk.map kfP) none, rPool 2 pl, rB g3 54 ([.map (some gm)]), rR kE 115 v4 (List.replicate tab.length (0, false))] := Hold.toR H2 2 rfl e7 b7 c7 rfl
  clear H2
  clear e7 b7 c7
  refine re (bl ?_)
  have H4 : Hold w F w7 [rB ge 60 ((eC s b gp gw gd tv qn actv usd opn gl gk)), rR kE 115 tv tab, rMR gm r18 (wk.map kfP) (wk.map kfP) none, rPool 2 pl, rB g3 54 ([.map (some gm)]), rR kE 115 v4 (ownT tab (ownB []))] := (by rw [show List.replicate tab.length ((0, false) : Int × Bool) = ownT tab (ownB []) from (ownT_none tab).symm] at H3; exact H3)
  clear H3
  have H5 : Hold w F w7 [rB ge 60 ((eC s b gp gw gd tv qn actv usd opn gl gk)), rR kE 115 tv tab, rMR gm r18 (wk.map kfP) (wk.map kfP) none, rPool 2 pl, rR kE 115 v4 (ownT tab (ownB []))] := (show Hold w F w7 ([rB ge 60 ((eC s b gp gw gd tv qn actv usd opn gl gk)), rR kE 115 tv tab, rMR gm r18 (wk.map kfP) (wk.map kfP) none, rPool 2 pl, rR kE 115 v4 (ownT tab (ownB []))] ++ [rB g3 54 ([.map (some gm)])]) from Hold.re H4 [0, 1, 2, 3, 5, 4] (by kernel_rfl) (by rfl)).drop
  clear H4
  refine lp (α := List Kf × Option KV × List Kf) (fun (R, cu, V) ρ w' => ρ 0 = .pointer (some ⟨ge, 0, none⟩) ∧ ρ 5 = v4 ∧ ρ 18 = .pointer (some ⟨r18, 0, none⟩) ∧ Hold w F w' [rB ge 60 ((eC s b gp gw gd tv qn actv usd opn gl gk)), rR kE 115 tv tab, rMR gm r18 (wk.map kfP) (R.map kfP) cu, rPool 2 pl, rR kE 115 v4 (ownT tab (ownB V))] ∧ ∀ k, k ∈ wk ↔ k ∈ V ∨ k ∈ R) (fun (R, cu, V) => R.length) (wk, none, []) ?_ ?_
  · exact ⟨rfl, rfl, rfl, H5, fun k => by simp⟩
  clear H5
  rintro ⟨R, cu, V⟩ ρ w506 ⟨y0, y5, y18, H6, hV⟩
  have b8 : MpR w506 gm r18 (wk.map kfP) (R.map kfP) cu := Hold.mpr H6 2 rfl
  refine sq (rg (ef (xnext (f := kfP) (R := R) y18 b8) ?_))
  rintro _ w8 (⟨rfl, hR8, rfl⟩ | ⟨y, R1, R2, hR8, rfl, d8, c8⟩)
  · subst hR8
    refine r (xt rfl rfl) (re (sq (cf rfl (ex rfl (sq (rg (r (mv y5) (r (sa rfl) (re (rt ?_))))))))))
    have H7 : Hold w F w8 [rB ge 60 ((eC s b gp gw gd tv qn actv usd opn gl gk)), rR kE 115 tv tab, rMW gm (wk.map kfP), rPool 2 pl, rR kE 115 v4 (ownT tab (ownB V))] := Hold.ofR H6 2 rfl rfl
    clear H6
    exact fin1 (v := v4) Tryz.results97 rfl (by rw [ownT_congr (p := ownB wk) (q := ownB V) (fun i _ => ownB_congr (fun k => by simpa using hV k) _)]; exact H7)
  · have H7 : Hold w F w8 [rB ge 60 ((eC s b gp gw gd tv qn actv usd opn gl gk)), rR kE 115 tv tab, rMR gm r18 (wk.map kfP) ((R1 ++ R2).map kfP) (some (kfP y)), rPool 2 pl, rR kE 115 v4 (ownT tab (ownB V))] := Hold.setMR H6 2 rfl d8 c8 rfl
    clear H6
    subst hR8
    have hy : y ∈ wk := (hV y).2 (.inr (by simp))
    have hy2 := hwk y hy
    have hyn := hy2.num
    have hyl : (y.lid :: y.ls).length = y.ls.length + 1 := rfl
    refine r (xt rfl rfl) (re (sq (ct rfl (sk (bl (sq (rg (r (xent y18 (Hold.mpr H7 2 rfl)) (r (xt rfl rfl) (ef (xal ti91) ?_))))))))))
    rintro _ w9 ⟨g7, e9, rfl, -, b9, c9⟩
    have H8 : Hold w F w9 [rB ge 60 ((eC s b gp gw gd tv qn actv usd opn gl gk)), rR kE 115 tv tab, rMR gm r18 (wk.map kfP) ((R1 ++ R2).map kfP) (some (kfP y)), rPool 2 pl, rR kE 115 v4 (ownT tab (ownB V)), rB g7 91 ([.int .i64 0, .string ⟨#[]⟩, .int .i64 0, .slice none 0 0])] := Hold.newB H7 e9 b9 c9
    clear H7
    clear e9 b9 c9
    have b10 : B w9 g7 91 ([.int .i64 0, .string ⟨#[]⟩, .int .i64 0, .slice none 0 0]) := Hold.blk H8 5 rfl
    obtain ⟨_, T12⟩ := Hold.kept H8 3 rfl hy2.pool
    refine ef0 (xst (vs := [.int .i64 y.lid, .string y.nm, .int .i64 y.sz, y.lv]) ti91 rfl rfl rfl b10 rfl (Nat.le_of_ble_eq_true rfl) (oc rfl (oc rfl (oc rfl (oc (T12).oneCell on))))) ?_
    rintro w11 ⟨-, b11, c11⟩
    have H9 : Hold w F w11 [rB ge 60 ((eC s b gp gw gd tv qn actv usd opn gl gk)), rR kE 115 tv tab, rMR gm r18 (wk.map kfP) ((R1 ++ R2).map kfP) (some (kfP y)), rPool 2 pl, rR kE 115 v4 (ownT tab (ownB V)), rB g7 91 ([.int .i64 y.lid, .string y.nm, .int .i64 y.sz, y.lv])] := Hold.setB H8 5 rfl b11 c11 rfl
    clear H8
    clear b11 c11
    have b13 : B w11 g7 91 ([.int .i64 y.lid, .string y.nm, .int .i64 y.sz, y.lv]) := Hold.blk H9 5 rfl
    refine re (sq (rg (r (fa Tryz.underlying91 rfl ti2 rfl rfl) (r (ldb Tryz.underlying2 rfl rfl b13 rfl) (ef (bsm (cs := [.int .i64 y.lid]) Tryz.underlying86 ti2 rfl (by rfl) (pc rfl (cel1 rfl) pn) rfl) ?_)))))
    rintro _ w14 ⟨g25, e14, rfl, -, b14, c14⟩
    have H10 : Hold w F w14 [rB ge 60 ((eC s b gp gw gd tv qn actv usd opn gl gk)), rR kE 115 tv tab, rMR gm r18 (wk.map kfP) ((R1 ++ R2).map kfP) (some (kfP y)), rPool 2 pl, rR kE 115 v4 (ownT tab (ownB V)), rB g7 91 ([.int .i64 y.lid, .string y.nm, .int .i64 y.sz, y.lv]), rB g25 2 ([.int .i64 y.lid])] := Hold.newB H9 e14 b14 c14
    clear H9
    clear e14 b14 c14
    have H11 : Hold w F w14 [rB ge 60 ((eC s b gp gw gd tv qn actv usd opn gl gk)), rR kE 115 tv tab, rMR gm r18 (wk.map kfP) ((R1 ++ R2).map kfP) (some (kfP y)), rPool 2 pl, rR kE 115 v4 (ownT tab (ownB V)), rB g7 91 ([.int .i64 y.lid, .string y.nm, .int .i64 y.sz, y.lv]), rR i64 2 (.slice (some ⟨g25, 0, none⟩) 1 1) ([y.lid])] := Hold.asrow (dk := i64) (xs := [y.lid]) (m := 1) H10 6 rfl (els_int [y.lid]) ⟨rfl, Nat.le_of_ble_eq_true rfl⟩ rfl
    clear H10
    have b15 : B w14 g7 91 ([.int .i64 y.lid, .string y.nm, .int .i64 y.sz, y.lv]) := Hold.blk H11 5 rfl
    obtain ⟨_, T17⟩ := Hold.kept H11 3 rfl hy2.pool
    obtain ⟨F18, P18, n18, s18, K18⟩ := Hold.pick H11 6 rfl
    replace P18 : Kd.W i64 2 w14 F18 (.slice (some ⟨g25, 0, none⟩) 1 1) ([y.lid]) := P18
    refine r (fa Tryz.underlying91 rfl ti89 rfl rfl) (r (fa Tryz.underlying89 rfl ti86 rfl rfl) (r (ldb Tryz.underlying86 rfl rfl b15 rfl) (ef (aps Tryz.underlying86 ti2 rfl (flat_int _) rfl rfl P18 (T17) n18 (by simp; omega)) ?_)))
    rintro v29_16 w16 ⟨F16, A16⟩
    have H12 : Hold w F w16 [rB ge 60 ((eC s b gp gw gd tv qn actv usd opn gl gk)), rR kE 115 tv tab, rMR gm r18 (wk.map kfP) ((R1 ++ R2).map kfP) (some (kfP y)), rPool 2 pl, rR kE 115 v4 (ownT tab (ownB V)), rB g7 91 ([.int .i64 y.lid, .string y.nm, .int .i64 y.sz, y.lv]), rR i64 2 v29_16 (([y.lid]) ++ y.ls)] := Hold.apd K18 P18 A16 rfl
    clear H11
    clear A16 K18 P18 n18 s18
    obtain ⟨_, R19⟩ : ∃ F, Kd.R i64 w16 F v29_16 (([y.lid]) ++ y.ls) := Hold.row H12 6 rfl
    refine r (ln Tryz.underlying86 rfl (R19)) (r (mv rfl) (re (bl ?_)))
    have H13 : Hold w F w16 [rB ge 60 ((eC s b gp gw gd tv qn actv usd opn gl gk)), rR kE 115 tv tab, rMR gm r18 (wk.map kfP) ((R1 ++ R2).map kfP) (some (kfP y)), rPool 2 pl, rR kE 115 v4 (ownT tab (ownB V)), rB g7 91 ([.int .i64 y.lid, .string y.nm, .int .i64 y.sz, y.lv]), rR i64 2 v29_16 (y.lid :: y.ls)] := (by rw [show ([y.lid]) ++ y.ls = y.lid :: y.ls from rfl] at H12; exact H12)
    clear H12
    have H14 : Hold w F w16 [rB ge 60 ((eC s b gp gw gd tv qn actv usd opn gl gk)), rR kE 115 tv tab, rMR gm r18 (wk.map kfP) ((R1 ++ R2).map kfP) (some (kfP y)), rPool 2 pl, rR kE 115 v4 (ownT tab (ownB V)), rR i64 2 v29_16 (y.lid :: y.ls)] := (show Hold w F w16 ([rB ge 60 ((eC s b gp gw gd tv qn actv usd opn gl gk)), rR kE 115 tv tab, rMR gm r18 (wk.map kfP) ((R1 ++ R2).map kfP) (some (kfP y)), rPool 2 pl, rR kE 115 v4 (ownT tab (ownB V)), rR i64 2 v29_16 (y.lid :: y.ls)] ++ [rB g7 91 ([.int .i64 y.lid, .string y.nm, .int .i64 y.sz, y.lv])]) from Hold.re H13 [0, 1, 2, 3, 4, 6, 5] (by kernel_rfl) (by rfl)).drop
    clear H13
    refine lp (α := Nat) (fun j ρ w' => ρ 0 = .pointer (some ⟨ge, 0, none⟩) ∧ ρ 5 = v4 ∧ ρ 18 = .pointer (some ⟨r18, 0, none⟩) ∧ ρ 29 = v29_16 ∧ ρ 30 = .int .i64 ((y.lid :: y.ls).length : Int) ∧ ρ 31 = .int .i64 (j : Int) ∧ Hold w F w' [rB ge 60 ((eC s b gp gw gd tv qn actv usd opn gl gk)), rR kE 115 tv tab, rMR gm r18 (wk.map kfP) ((R1 ++ R2).map kfP) (some (kfP y)), rPool 2 pl, rR kE 115 v4 (ownT tab (fun l => ownB V l || ((y.lid :: y.ls).take j).contains l)), rR i64 2 v29_16 (y.lid :: y.ls)] ∧ j ≤ (y.lid :: y.ls).length) (fun j => (y.lid :: y.ls).length - j) 0 ?_ ?_
    · exact ⟨y0, y5, y18, rfl, rfl, rfl, (by rw [ownT_congr (q := ownB V) (fun i _ => by simp)]; exact H14), by omega⟩
    clear H14
    rintro j ρ w515 ⟨y0, y5, y18, y29, y30, y31, H15, hj⟩
    refine sq (rg (r (bi y31 y30 rfl) (re (sq ?_))))
    refine cp rfl (fun hlt => ?_) (fun hlt => ?_)
    · have hj' : j < (y.lid :: y.ls).length := by omega
      have hl := hy2.one hj'
      obtain ⟨l, hll⟩ : ∃ l, l = (y.lid :: y.ls)[j] := ⟨_, rfl⟩
      rw [← hll] at hl
      obtain ⟨m, hm⟩ : ∃ m : Nat, (m : Int) + 1 = l := ⟨(l - 1).toNat, by omega⟩
      have hm' : m < tab.length := by omega
      have hS := ownT_set (p := fun l => ownB V l || ((y.lid :: y.ls).take j).contains l) hm' hm
      obtain ⟨_, R20⟩ : ∃ F, Kd.R i64 w515 F v29_16 (y.lid :: y.ls) := Hold.row H15 5 rfl
      refine sk (sq (bl (sq (rg ?_))))
      obtain ⟨c33_21, ad33_21, k33_21, e33_21, p33_21⟩ := Kd.R.place R20 j (by omega)
      have b22 : B w515 ge 60 ((eC s b gp gw gd tv qn actv usd opn gl gk)) := Hold.blk H15 0 rfl
      obtain ⟨_, R23⟩ : ∃ F, Kd.R kE w515 F tv tab := Hold.row H15 1 rfl
      refine r (ix (j := j) Tryz.underlying86 ti2 (y29.trans e33_21) y31 (by omega)) (r (Rn.cast (v' := .int .i64 l) (ld Tryz.underlying2 rfl rfl p33_21.cell) (congrArg (Value.int .i64) hll.symm)) (r (sa rfl) (re (rg (r (mv y5) (r (mv rfl) (r (sb (a := l) (b := 1) ((m : Int)) rfl rfl (by omega)) (r (mv y0) (r (nck rfl) (r (fa Tryz.underlying60 rfl ti58 rfl rfl) (r (ldb Tryz.underlying58 rfl rfl b22 rfl) (r (mv rfl) (r (sb (a := l) (b := 1) ((m : Int)) rfl rfl (by omega)) ?_)))))))))))))
      obtain ⟨c44_24, ad44_24, k44_24, e44_24, p44_24⟩ := Kd.R.place R23 m (hm')
      have q44_24 := en_at p44_24
      obtain ⟨F26, P26, n26, s26, K26⟩ := Hold.pick H15 4 rfl
      replace P26 : Kd.W kE 115 w515 F26 v4 (ownT tab (fun l => ownB V l || ((y.lid :: y.ls).take j).contains l)) := P26
      refine r (ix (j := m) Tryz.underlying58 ti115 e44_24 rfl (hm')) (r (la [.int .i64 ((tab[m]).1), .bool ((tab[m]).2)] Tryz.underlying115 rfl ti115 rfl rfl (fun m u h => (q44_24 m u h))) (ixs (a := ((tab[m]).1, (tab[m]).2)) (j := m) Tryz.underlying58 ti115 rfl P26 rfl (by rw [ownT_len]; exact hm') (fun _ => rfl) ⟨[], [], [_], [_], rfl, rfl, ⟨rfl, rfl⟩, ⟨rfl, rfl⟩⟩ (nodup_nil n26) ?_))
      intro _ w25 F25 s25 A25
      have H16 : Hold w F w25 [rB ge 60 ((eC s b gp gw gd tv qn actv usd opn gl gk)), rR kE 115 tv tab, rMR gm r18 (wk.map kfP) ((R1 ++ R2).map kfP) (some (kfP y)), rPool 2 pl, rR kE 115 v4 ((ownT tab (fun l => ownB V l || ((y.lid :: y.ls).take j).contains l)).set m ((tab[m]).1, (tab[m]).2)), rR i64 2 v29_16 (y.lid :: y.ls)] := Hold.apd K26 P26 A25 rfl
      clear H15
      clear A25 K26 P26 n26 s26 s25
      refine re (be ?_)
      refine gen (fun ρ => ρ 0 = .pointer (some ⟨ge, 0, none⟩) ∧ ρ 5 = v4 ∧ ρ 18 = .pointer (some ⟨r18, 0, none⟩) ∧ ρ 29 = v29_16 ∧ ρ 30 = .int .i64 ((y.lid :: y.ls).length : Int) ∧ ρ 31 = .int .i64 (j : Int) ∧ True) ⟨y0, y5, y18, y29, y30, y31, trivial⟩ ?_
      rintro ρ ⟨z0, z5, z18, z29, z30, z31, -⟩
      refine rg (r (ad (a := (j : Int)) (b := 1) ((j : Int) + 1) z31 rfl (by omega)) (r (mv rfl) (re ?_)))
      exact ag (j + 1) ⟨z0, z5, z18, z29, z30, rfl, (by rw [ownT_congr (q := fun x => (ownB V x || ((y.lid :: y.ls).take j).contains x) || decide (x = l)) (fun i _ => by rw [take_con hj', ← hll, Bool.or_assoc]), ← hS]; exact H16), by omega⟩ (by first | omega | (dsimp only; omega))
    · have ej : j = (y.lid :: y.ls).length := by omega
      refine ex rfl (be ?_)
      have H16 : Hold w F w515 [rB ge 60 ((eC s b gp gw gd tv qn actv usd opn gl gk)), rR kE 115 tv tab, rMR gm r18 (wk.map kfP) ((R1 ++ R2).map kfP) (some (kfP y)), rPool 2 pl, rR kE 115 v4 (ownT tab (fun l => ownB V l || ((y.lid :: y.ls).take j).contains l))] := (show Hold w F w515 ([rB ge 60 ((eC s b gp gw gd tv qn actv usd opn gl gk)), rR kE 115 tv tab, rMR gm r18 (wk.map kfP) ((R1 ++ R2).map kfP) (some (kfP y)), rPool 2 pl, rR kE 115 v4 (ownT tab (fun l => ownB V l || ((y.lid :: y.ls).take j).contains l))] ++ [rR i64 2 v29_16 (y.lid :: y.ls)]) from Hold.re H15 [0, 1, 2, 3, 4, 5] (by kernel_rfl) (by rfl)).drop
      clear H15
      exact ag (R1 ++ R2, some (kfP y), y :: V) ⟨y0, y5, y18, (by rw [ownT_congr (q := fun l => ownB V l || ((y.lid :: y.ls).take j).contains l) (fun i _ => by rw [ej, List.take_length, ownB, List.any_cons, Bool.or_comm]; rfl)]; exact H16), fun k => by rw [hV k]; simp only [List.mem_append, List.mem_cons]; exact ⟨fun h => by rcases h with h | h | h | h <;> simp [h], fun h => by rcases h with (h | h) | h | h <;> simp [h]⟩⟩ (by simp)
end Go.Proofs.YtanfhikfeabidaaGreatDoor

namespace Go.Eng
set_option linter.unusedVariables false
set_option linter.unusedSimpArgs false
section
variable {P : Program} {ρ : Fr} {w : World} {d : Option Nat} {ty : TypeId} {pos : String} {af : Array Edge}
theorem run_eqIn_mp (m : Nat) {t k e : TypeId} {q : Option Nat} (h : P.underlying t = some (.map k e)) (w : World) : (Op.equalIn (m + 1) t (.map q) (.map none)).run P w = .ok q.isNone w := by
  cases q <;> simp [Op.equalIn, run_underlying h]
/-- A map held against nil. -/
theorem mnl {t u k e : TypeId} {x : Operand} {g : Nat} (ht : P.underlying t = some (.map k e)) (hx : ev ρ x = .map (some g)) : Rn P ρ ⟨d, .binOp .eql t x (.const (.map none)) u, ty, pos, af, none⟩ w (.bool false) := by
  refine ⟨rfl, fun w' _ => ?_⟩
  have h1 : (Op.equal t (.map (some g)) (.map none)).run P w' = .ok false w' := run_eqIn_mp 9999 (q := some g) ht w'
  have h2 : (eqGuard .eql t x (.const (.map none)) (.map (some g)) (.map none)).run P w' = .ok () w' := by simp [eqGuard]
  have h3 : binOp .eql t (.map (some g)) (.map none) = (do pure (.bool (← Op.equal t (.map (some g)) (.map none)))) := rfl
  simp only [execOp, hx, show ev ρ (.const (.map none)) = .map none from rfl, Sem.run_bind, h2, Result.andThen_ok, h3, h1, Sem.run_pure]
/-- 'x.(M)' of a map. -/
theorem tam {t xT k e : TypeId} {x : Operand} {v : Value} (ht : P.underlying t = some (.map k e)) (hx : ev ρ x = .iface t v) : Rn P ρ ⟨d, .typeAssert x xT t false, ty, pos, af, none⟩ w v :=
  ⟨rfl, fun w' _ => by simp [execOp, hx, Instr.typeAssert, run_underlying ht]⟩
/-- The model's maps.clone. -/
theorem xcln {f : FuncId} {fn : Func} {t : TypeId} {x : Operand} {ts : Array TypeId} {g : Nat} {m : List KV} (hf : P.funcs[f]? = some fn) (hname : (fn.name == "runtime.NumGoroutine") = false) (hb : fn.body.isNone = true) (hn : Extern.findNext fn = none) (he : Extern.find fn = some Extern.MapsClone.clone) (hx : ev ρ x = .iface t (.map (some g))) (hM : MpW w g m) :
    Ex P ρ ⟨d, .call ⟨.value (.func f), #[x], ts⟩, ty, pos, af, none⟩ w (fun v w' => ∃ g', g' = w.heap.size ∧ v = .iface t (.map (some g')) ∧ MpW w' g' m ∧ Ch [] w w') := by
  obtain ⟨es, clock, hM1, hs, hM2⟩ := hM
  refine ⟨rfl, .iface t (.map (some w.heap.size)), w.alloc (.map es clock), ?_, w.heap.size, rfl, rfl, ⟨es, clock, heap_alloc_new _ _, hs, hM2⟩, ch_alloc _ _⟩
  have e : Extern.MapsClone.clone #[.iface t (.map (some g))] = (getObj g >>= fun o => match o with
      | .map entries clock => (newObj (.map entries clock) >>= fun n => pure (.iface t (.map (some n))))
      | _ => stuck "maps.clone: a map expected") := rfl
  have h2 : (Extern.MapsClone.clone #[.iface t (.map (some g))]).run P w = .ok (.iface t (.map (some w.heap.size))) (w.alloc (.map es clock)) := by
    rw [e]
    simp [MapKept.run_getObj_map hM1, Result.andThen]
  have h1 := run_callFunc_extern hf hname hb hn he #[.iface t (.map (some g))] w
  rw [h2] at h1
  have hev : ev ρ (.func f) = .func (.func f) #[] #[] := rfl
  simp [execOp, resolve, Deferred.ofValue, invoke, hev, hx, h1]
end
end Go.Eng
namespace Go.Proofs.YtanfhikfeabidaaGreatDoor
open Go Go.Eng
set_option maxRecDepth 100000
set_option maxHeartbeats 4000000
set_option linter.unusedVariables false
set_option linter.unusedSimpArgs false
theorem maps_Clone {w : World} {g : Nat} {m : List KV} (hM : MpW w g m) : Ret Tryz.prog 32 #[.map (some g)] w (fun r w' => ∃ g', r = .map (some g') ∧ Hold w [] w' [rMW g' m]) := by
  refine enter Tryz.func32 rfl Tryz.ntmps32 (by rfl) (by rfl) ?_
  have H0 : Hold w [] w [] := Hold.start w
  refine sq (rg (r (sa rfl) (re (sq (sq (rg (r (mv rfl) (r (mnl Tryz.underlying52 rfl) (re (cf rfl (sk (sq (rg (r (mv rfl) (r (mif Tryz.underlying52 rfl rfl) (ef (xcln Tryz.func52 (by kernel_rfl) (by kernel_rfl) (by kernel_rfl) (by kernel_rfl) rfl (MpW.t (Hold.ch H0) hM)) ?_))))))))))))))))
  rintro _ w1 ⟨g', e1, rfl, b1, c1⟩
  have H1 : Hold w [] w1 [rMW g' m] := Hold.newMW H0 e1 b1 c1
  clear H0
  clear e1 b1 c1
  refine r (tam Tryz.underlying52 rfl) (r (sa rfl) (re (rt ?_)))
  exact fin1 (v := .map (some g')) Tryz.results32 rfl ⟨_, rfl, H1⟩
theorem Places_reg {w : World} {a c d e f k : Int} (h : 0 ≤ c ∧ c ≤ 1000 ∧ 0 ≤ k ∧ k ≤ 1) : Ret Tryz.prog 20 #[.agg #[.int .i64 a, .int .i64 c, .int .i64 d, .int .i64 e, .int .i64 f], .int .i64 k] w (fun r w' => r = .int .i64 (k * (1 + c)) ∧ Ch [] w w') := by
  obtain ⟨h1, h2, h3, h4⟩ := h
  have hk : 0 ≤ k * (1 + c) ∧ k * (1 + c) ≤ 1 + c := by
    obtain rfl | rfl : k = 0 ∨ k = 1 := by omega
    · simp; omega
    · omega
  refine enter Tryz.func20 rfl Tryz.ntmps20 (by rfl) (by rfl) ?_
  have H0 : Hold w [] w [] := Hold.start w
  refine sq (rg (ef (xbx (t := 51) rfl rfl) ?_))
  rintro _ w1 ⟨g2, e1, rfl, -, b1, c1⟩
  have H1 : Hold w [] w1 [rB g2 51 ([.int .i64 a, .int .i64 c, .int .i64 d, .int .i64 e, .int .i64 f])] := Hold.newB H0 e1 b1 c1
  clear H0
  clear e1 b1 c1
  have b2 : B w1 g2 51 ([.int .i64 a, .int .i64 c, .int .i64 d, .int .i64 e, .int .i64 f]) := Hold.blk H1 0 rfl
  refine r (sa rfl) (re (sq (rg (r (mv rfl) (r (fa Tryz.underlying51 rfl ti2 rfl rfl) (r (ldb Tryz.underlying2 rfl rfl b2 rfl) (r (ad (a := 1) (b := c) (1 + c) rfl rfl (by omega)) (r (ml (a := k) (b := 1 + c) (k * (1 + c)) rfl rfl (by omega)) (r (sa rfl) (re (rt ?_)))))))))))
  exact fin1 (v := .int .i64 (k * (1 + c))) Tryz.results20 rfl ⟨rfl, Hold.ch H1⟩
theorem eng_checkpoint {w : World} {F : List Nat} {ge gp gw gd gl gk gm : Nat} {tv : Value} {s b qn actv usd opn : Int} {rdf : Int → List Int} {tab : List (Int × Bool)} {wk : List Kf} {pl : List (Value × List Int)} (h : Hs w [rB ge 60 ((eC s b gp gw gd tv qn actv usd opn gl gk)), rPl gp (logs s b + s * b) rdf, rR kE 115 tv tab, rMW gm (wk.map kfP), rPool 2 pl, rB gl 2 ([.int .i64 (-1)])] F) (nd : F.Nodup) (hg : geo s b) (lt : tab.length ≤ 2000)
    (hwk : ∀ k, k ∈ wk → KfOk tab.length pl k) (hq : 0 ≤ qn ∧ qn ≤ 1000000) : Ret Tryz.prog 96 #[.pointer (some ⟨ge, 0, none⟩), .agg #[.map (some gm)]] w (fun r w' => ∃ op' rd', (∀ c, logs s b ≤ c → rd' c = rdf c) ∧ Hold w F w' [rB ge 60 ((eC s b gp gw gd tv (qn + 1) actv usd op' gl gk)), rPl gp (logs s b + s * b) rd', rR kE 115 tv tab, rMW gm (wk.map kfP), rPool 2 pl, rB gl 2 ([.int .i64 (-1)])]) := by
  have hm2 := geo_mul hg
  have hg2 := hg
  unfold geo at hg2
  have htb : 0 ≤ tabs s b ∧ tabs s b ≤ 33 := by unfold tabs; omega
  have hlg : logs s b = 2 * (1 + tabs s b) := rfl
  refine enter Tryz.func96 rfl Tryz.ntmps96 (by rfl) (by rfl) ?_
  have H0 : Hold w F w [rB ge 60 ((eC s b gp gw gd tv qn actv usd opn gl gk)), rPl gp (logs s b + s * b) rdf, rR kE 115 tv tab, rMW gm (wk.map kfP), rPool 2 pl, rB gl 2 ([.int .i64 (-1)])] := Hold.begin h nd
  refine sq (rg (ef (xbx (t := 54) rfl rfl) ?_))
  rintro _ w1 ⟨g3, e1, rfl, -, b1, c1⟩
  have H1 : Hold w F w1 [rB ge 60 ((eC s b gp gw gd tv qn actv usd opn gl gk)), rPl gp (logs s b + s * b) rdf, rR kE 115 tv tab, rMW gm (wk.map kfP), rPool 2 pl, rB gl 2 ([.int .i64 (-1)]), rB g3 54 ([.map (some gm)])] := Hold.newB H0 e1 b1 c1
  clear H0
  clear e1 b1 c1
  have b2 : B w1 ge 60 ((eC s b gp gw gd tv qn actv usd opn gl gk)) := Hold.blk H1 0 rfl
  refine re (sq (rg (r (mv rfl) (r (nck rfl) (r (fa Tryz.underlying60 rfl ti2 rfl rfl) (r (ldb Tryz.underlying2 rfl rfl b2 rfl) (r (ad (a := qn) (b := 1) (qn + 1) rfl rfl (by omega)) (r (nck rfl) (r (fa Tryz.underlying60 rfl ti2 rfl rfl) (ef0 (xst (vs := [.int .i64 (qn + 1)]) ti2 rfl rfl (cel1 rfl) b2 rfl (Nat.le_of_ble_eq_true rfl) (one_all rfl)) ?_))))))))))
  rintro w3 ⟨-, b3, c3⟩
  have H2 : Hold w F w3 [rB ge 60 ((eC s b gp gw gd tv (qn + 1) actv usd opn gl gk)), rPl gp (logs s b + s * b) rdf, rR kE 115 tv tab, rMW gm (wk.map kfP), rPool 2 pl, rB gl 2 ([.int .i64 (-1)]), rB g3 54 ([.map (some gm)])] := Hold.setB H1 0 rfl b3 c3 rfl
  clear H1
  clear b3 c3
  have b4 : B w3 g3 54 ([.map (some gm)]) := Hold.blk H2 6 rfl
  have H3 : Hold w F w3 [rB ge 60 ((eC s b gp gw gd tv (qn + 1) actv usd opn gl gk)), rR kE 115 tv tab, rMW gm (wk.map kfP), rPool 2 pl, rPl gp (logs s b + s * b) rdf, rB gl 2 ([.int .i64 (-1)]), rB g3 54 ([.map (some gm)])] := Hold.re H2 [0, 2, 3, 4, 1, 5, 6] (by kernel_rfl) (by rfl)
  clear H2
  obtain ⟨F5, hF5, n5, s5, K5⟩ := Hold.front (Γ := [rB ge 60 ((eC s b gp gw gd tv (qn + 1) actv usd opn gl gk)), rR kE 115 tv tab, rMW gm (wk.map kfP), rPool 2 pl]) (Δ := [rPl gp (logs s b + s * b) rdf, rB gl 2 ([.int .i64 (-1)]), rB g3 54 ([.map (some gm)])]) H3
  refine re (sq (rg (r (mv rfl) (r (lab [.map (some gm)] Tryz.underlying54 rfl ti54 rfl b4 rfl rfl) (cl go97 (eng_only hF5 n5 lt hwk) (ac rfl (ac rfl an)) ?_)))))
  rintro rnv wn Hn
  have H4 : Hold w F wn [rB ge 60 ((eC s b gp gw gd tv (qn + 1) actv usd opn gl gk)), rR kE 115 tv tab, rMW gm (wk.map kfP), rPool 2 pl, rR kE 115 rnv (ownT tab (ownB wk)), rPl gp (logs s b + s * b) rdf, rB gl 2 ([.int .i64 (-1)]), rB g3 54 ([.map (some gm)])] := Hold.call K5 Hn
  clear H3
  clear K5 hF5 n5 s5
  clear Hn
  obtain ⟨_, R7⟩ : ∃ F, Kd.R kE wn F rnv (ownT tab (ownB wk)) := Hold.row H4 4 rfl
  refine cl go135 (Ret.hold (d := u8) (impl_EncodeTable R7 (by rw [ownT_len]; omega))) (ac rfl an) ?_
  rintro rbv wB HB
  have H5 : Hold w F wB [rB ge 60 ((eC s b gp gw gd tv (qn + 1) actv usd opn gl gk)), rR kE 115 tv tab, rMW gm (wk.map kfP), rPool 2 pl, rR kE 115 rnv (ownT tab (ownB wk)), rPl gp (logs s b + s * b) rdf, rB gl 2 ([.int .i64 (-1)]), rB g3 54 ([.map (some gm)]), rR u8 5 rbv (encTable (ownT tab (ownB wk)))] := Hold.news H4 HB
  clear H4
  clear HB
  refine r (sa rfl) (re ?_)
  obtain ⟨dt, hdt⟩ : ∃ d, d = encTable (ownT tab (ownB wk)) := ⟨_, rfl⟩
  have hdl := encTable_len (ownT tab (ownB wk))
  rw [← hdt] at hdl
  obtain ⟨kk, hkk⟩ : ∃ k, k = (qn + 1) % 2 := ⟨_, rfl⟩
  have hk01 : 0 ≤ kk ∧ kk ≤ 1 := by omega
  have hat : 0 ≤ kk * (1 + tabs s b) ∧ kk * (1 + tabs s b) ≤ 1 + tabs s b := by
    obtain hk0 | hk0 : kk = 0 ∨ kk = 1 := by omega
    · rw [hk0]; simp; omega
    · rw [hk0]; omega
  have H6 : Hold w F wB [rB ge 60 ((eC s b gp gw gd tv (qn + 1) actv usd opn gl gk)), rR kE 115 tv tab, rMW gm (wk.map kfP), rPool 2 pl, rR kE 115 rnv (ownT tab (ownB wk)), rPl gp (logs s b + s * b) rdf, rB gl 2 ([.int .i64 (-1)]), rB g3 54 ([.map (some gm)]), rR u8 5 rbv dt] := (by rw [← hdt] at H5; exact H5)
  clear H5
  refine sq ?_
  refine gen (fun ρ => ρ 0 = .pointer (some ⟨ge, 0, none⟩) ∧ ρ 4 = rbv ∧ True) ⟨rfl, rfl, trivial⟩ ?_
  rintro ρ ⟨z0, z4, -⟩
  refine rde mixed ?_
  intro w8 c8
  have H7 : Hold w F w8 [rB ge 60 ((eC s b gp gw gd tv (qn + 1) actv usd opn gl gk)), rR kE 115 tv tab, rMW gm (wk.map kfP), rPool 2 pl, rR kE 115 rnv (ownT tab (ownB wk)), rPl gp (logs s b + s * b) rdf, rB gl 2 ([.int .i64 (-1)]), rB g3 54 ([.map (some gm)]), rR u8 5 rbv dt] := Hold.t H6 c8
  clear H6
  clear c8
  have H9d0 : Hold w8 [] w8 [] := Hold.start w8
  refine ⟨fun w' => Ch [] w8 w', Ch.refl _ _, ?_⟩
  have b10 : B w8 ge 60 ((eC s b gp gw gd tv (qn + 1) actv usd opn gl gk)) := Hold.blk H7 0 rfl
  refine edt 0 rfl (by kernel_rfl) (fun w' hS => mv z0) (edt 1 rfl (by kernel_rfl) (fun w' hS => nck rfl) (edt 2 rfl (by kernel_rfl) (fun w' hS => fa Tryz.underlying60 rfl ti51 rfl rfl) (edt 3 rfl (by kernel_rfl) (fun w' hS => lab [.int .i64 (s * b), .int .i64 (tabs s b), .int .i64 (logs s b), .int .i64 (logs s b + s * b), .int .i64 (s * b - 2 * b)] Tryz.underlying51 rfl ti51 rfl (hS.b0 b10) rfl rfl) (edt 4 rfl (by kernel_rfl) (fun w' hS => mv z0) (edt 5 rfl (by kernel_rfl) (fun w' hS => nck rfl) (edt 6 rfl (by kernel_rfl) (fun w' hS => fa Tryz.underlying60 rfl ti2 rfl rfl) (edt 7 rfl (by kernel_rfl) (fun w' hS => ldb Tryz.underlying2 rfl rfl (hS.b0 b10) rfl) (edt 8 rfl (by kernel_rfl) (fun w' hS => rm (a := qn + 1) (b := 2) (kk) rfl rfl ⟨by omega, by rw [Int.tmod_eq_emod_of_nonneg (by omega)]; exact hkk.symm⟩) (ed1 9 (by kernel_rfl) <| euc rfl go20 (ac rfl (ac rfl an)) (Places_reg ⟨htb.1, by omega, hk01.1, hk01.2⟩) ?_)))))))))
  rintro r wr ⟨rfl, cr⟩
  have H8d : Hold w8 [] wr [] := Hold.t H9d0 cr
  clear H9d0
  clear cr
  refine ⟨.inr (Hold.ch H8d), ?_⟩
  have H9 : Hold w F wr [rB ge 60 ((eC s b gp gw gd tv (qn + 1) actv usd opn gl gk)), rR kE 115 tv tab, rMW gm (wk.map kfP), rPool 2 pl, rR kE 115 rnv (ownT tab (ownB wk)), rPl gp (logs s b + s * b) rdf, rB gl 2 ([.int .i64 (-1)]), rB g3 54 ([.map (some gm)]), rR u8 5 rbv dt] := Hold.news H7 H8d
  clear H8d H7
  refine ed1 10 (by kernel_rfl) <| eur rfl (sa rfl) (.inl (by kernel_rfl)) ?_
  refine edd (by kernel_rfl) ?_
  refine sq (sq ?_)
  refine gen (fun ρ => ρ 0 = .pointer (some ⟨ge, 0, none⟩) ∧ ρ 4 = rbv ∧ ρ 5 = .int .i64 (kk * (1 + tabs s b)) ∧ True) ⟨z0, z4, rfl, trivial⟩ ?_
  rintro ρ ⟨z0, z4, z5, -⟩
  have b12 : B wr ge 60 ((eC s b gp gw gd tv (qn + 1) actv usd opn gl gk)) := Hold.blk H9 0 rfl
  refine rg (r (mv z0) (r (nck rfl) (r (fa Tryz.underlying60 rfl ti51 rfl rfl) (r (fa Tryz.underlying51 rfl ti2 rfl rfl) (r (ldb Tryz.underlying2 rfl rfl b12 rfl) (r (mv rfl) (re (bl ?_))))))))
  have H10 : Hold w F wr [rB ge 60 ((eC s b gp gw gd tv (qn + 1) actv usd opn gl gk)), rPl gp (logs s b + s * b) rdf, rR kE 115 tv tab, rMW gm (wk.map kfP), rPool 2 pl, rB gl 2 ([.int .i64 (-1)]), rR u8 5 rbv dt] := (show Hold w F wr ([rB ge 60 ((eC s b gp gw gd tv (qn + 1) actv usd opn gl gk)), rPl gp (logs s b + s * b) rdf, rR kE 115 tv tab, rMW gm (wk.map kfP), rPool 2 pl, rB gl 2 ([.int .i64 (-1)]), rR u8 5 rbv dt] ++ [rR kE 115 rnv (ownT tab (ownB wk)), rB g3 54 ([.map (some gm)])]) from Hold.re H9 [0, 5, 1, 2, 3, 6, 8, 4, 7] (by kernel_rfl) (by rfl)).drop
  clear H9
  refine lp (α := Nat × Int × (Int → List Int)) (fun (i, op2, rd2) ρ w' => ρ 0 = .pointer (some ⟨ge, 0, none⟩) ∧ ρ 4 = rbv ∧ ρ 5 = .int .i64 (kk * (1 + tabs s b)) ∧ ρ 34 = .int .i64 (tabs s b) ∧ ρ 35 = .int .i64 (i : Int) ∧ Hold w F w' [rB ge 60 ((eC s b gp gw gd tv (qn + 1) actv usd op2 gl gk)), rPl gp (logs s b + s * b) rd2, rR kE 115 tv tab, rMW gm (wk.map kfP), rPool 2 pl, rB gl 2 ([.int .i64 (-1)]), rR u8 5 rbv dt] ∧ (i : Int) ≤ tabs s b ∧ ∀ c, logs s b ≤ c → rd2 c = rdf c) (fun (i, op2, rd2) => (tabs s b - i).toNat) (0, opn, rdf) ?_ ?_
  · exact ⟨z0, z4, z5, rfl, rfl, H10, ⟨by omega, fun _ _ => rfl⟩⟩
  clear H10
  rintro ⟨i, op2, rd2⟩ ρ w511 ⟨y0, y4, y5, y34, y35, H11, ⟨hi, hrd⟩⟩
  refine sq (rg (r (bi y35 y34 rfl) (re (sq ?_))))
  refine cp rfl (fun hlt => ?_) (fun hlt => ?_)
  · refine sk (sq (bl (sq (rg (r (mv y35) (r (sa rfl) (re (sq (rg (ef (xal ti71) ?_))))))))))
    rintro _ w13 ⟨g7, e13, rfl, -, b13, c13⟩
    have H12 : Hold w F w13 [rB ge 60 ((eC s b gp gw gd tv (qn + 1) actv usd op2 gl gk)), rPl gp (logs s b + s * b) rd2, rR kE 115 tv tab, rMW gm (wk.map kfP), rPool 2 pl, rB gl 2 ([.int .i64 (-1)]), rR u8 5 rbv dt, rB g7 71 (byts (List.replicate 64 0))] := Hold.newB H11 e13 b13 c13
    clear H11
    clear e13 b13 c13
    refine re (sq ?_)
    refine rde mixed ?_
    intro w14 c14
    have H13 : Hold w F w14 [rB ge 60 ((eC s b gp gw gd tv (qn + 1) actv usd op2 gl gk)), rPl gp (logs s b + s * b) rd2, rR kE 115 tv tab, rMW gm (wk.map kfP), rPool 2 pl, rB gl 2 ([.int .i64 (-1)]), rR u8 5 rbv dt, rB g7 71 (byts (List.replicate 64 0))] := Hold.t H12 c14
    clear H12
    clear c14
    have H14 : Hold w F w14 [rB g7 71 (byts (List.replicate 64 0)), rB ge 60 ((eC s b gp gw gd tv (qn + 1) actv usd op2 gl gk)), rPl gp (logs s b + s * b) rd2, rR kE 115 tv tab, rMW gm (wk.map kfP), rPool 2 pl, rB gl 2 ([.int .i64 (-1)]), rR u8 5 rbv dt] := Hold.re H13 [7, 0, 1, 2, 3, 4, 5, 6] (by kernel_rfl) (by rfl)
    clear H13
    obtain ⟨Fd15, hFd15, nd15, Kd15, Xd15, sd15⟩ := Hold.frontx (Γ := [rB g7 71 (byts (List.replicate 64 0))]) (Δ := [rB ge 60 ((eC s b gp gw gd tv (qn + 1) actv usd op2 gl gk)), rPl gp (logs s b + s * b) rd2, rR kE 115 tv tab, rMW gm (wk.map kfP), rPool 2 pl, rB gl 2 ([.int .i64 (-1)]), rR u8 5 rbv dt]) H14
    have H15d0 : Hold w14 Fd15 w14 [rB g7 71 (byts (List.replicate 64 0))] := Hold.begin hFd15 nd15
    refine ⟨fun w' => Ch Fd15 w14 w', Ch.refl _ _, ?_⟩
    obtain ⟨_, R16, x16⟩ := Xd15 6 (rR u8 5 rbv dt) rfl
    replace R16 := Kd.W.R R16
    have H15 : Hold w F w14 [rB g7 71 (byts (List.replicate 64 0)), rB ge 60 ((eC s b gp gw gd tv (qn + 1) actv usd op2 gl gk)), rPl gp (logs s b + s * b) rd2, rR kE 115 tv tab, rMW gm (wk.map kfP), rPool 2 pl, rB gl 2 ([.int .i64 (-1)]), rR u8 5 rbv dt] := Hold.call Kd15 H15d0
    clear H15d0 H14
    have b17 : B w14 g7 71 (byts (List.replicate 64 0)) := Hold.blk H15 0 rfl
    obtain ⟨_, R19⟩ : ∃ F, Kd.R u8 w14 F rbv dt := Hold.row H15 7 rfl
    obtain ⟨F20, us20, R20⟩ := Kd.R.sl R19 (min (i * 64) dt.length) (dt.length) (by first | omega | (simp; omega)) (by first | omega | (simp; omega))
    refine edt 0 rfl (by kernel_rfl) (fun w' hS => sla Tryz.underlying71 ti5 rfl) (edt 1 rfl (by kernel_rfl) (fun w' hS => mv y4) (edt 2 rfl (by kernel_rfl) (fun w' hS => mv rfl) (edt 3 rfl (by kernel_rfl) (fun w' hS => ml (a := (i : Int)) (b := 64) (((i * 64 : Nat) : Int)) rfl rfl (by omega)) (edt 4 rfl (by kernel_rfl) (fun w' hS => mv y4) (edt 5 rfl (by kernel_rfl) (fun w' hS => ln Tryz.underlying22 rfl ((R16.tt hS x16))) (edt 6 rfl (by kernel_rfl) (fun w' hS => mn2 (((min (i * 64) dt.length : Nat) : Int)) rfl rfl (by split <;> omega)) (edt 7 rfl (by kernel_rfl) (fun w' hS => slrl (min (i * 64) dt.length) Tryz.underlying22 ti5 (R16.tt hS x16) rfl rfl (by omega)) (ed1 8 (by kernel_rfl) <| euf rfl (cpa (l := 0) (m := 64) Tryz.underlying22 ti5 ((rfl : _ = Value.slice (some ⟨g7, 0, none⟩) 64 64).trans (by simp [slv, Addr.add])) rfl b17 ⟨(by simp), by omega⟩ R20) ?_))))))))
    rintro _ w18 ⟨rfl, -, b18, c18⟩
    have H16 : Hold w F w18 [rB g7 71 (byts ((List.replicate 64 0).take 0 ++ ((dt.take dt.length).drop (min (i * 64) dt.length)).take (64 - 0) ++ (List.replicate 64 0).drop (0 + ((dt.take dt.length).drop (min (i * 64) dt.length)).length))), rB ge 60 ((eC s b gp gw gd tv (qn + 1) actv usd op2 gl gk)), rPl gp (logs s b + s * b) rd2, rR kE 115 tv tab, rMW gm (wk.map kfP), rPool 2 pl, rB gl 2 ([.int .i64 (-1)]), rR u8 5 rbv dt] := Hold.setB H15 0 rfl b18 c18 rfl
    clear H15
    clear b18 c18
    refine ⟨.inl (by kernel_rfl), ?_⟩
    refine edd (by kernel_rfl) ?_
    refine gen (fun ρ => ρ 0 = .pointer (some ⟨ge, 0, none⟩) ∧ ρ 4 = rbv ∧ ρ 5 = .int .i64 (kk * (1 + tabs s b)) ∧ ρ 6 = .int .i64 (i : Int) ∧ ρ 7 = .pointer (some ⟨g7, 0, none⟩) ∧ ρ 34 = .int .i64 (tabs s b) ∧ ρ 35 = .int .i64 (i : Int) ∧ True) ⟨y0, y4, y5, rfl, rfl, y34, y35, trivial⟩ ?_
    rintro ρ ⟨z0, z4, z5, z6, z7, z34, z35, -⟩
    refine rg (r (mv z0) (r (mv z5) (r (ad (a := kk * (1 + tabs s b)) (b := 1) ((kk * (1 + tabs s b)) + 1) rfl rfl (by omega)) (r (mv z6) (r (ad (a := (kk * (1 + tabs s b)) + 1) (b := (i : Int)) (((kk * (1 + tabs s b)) + 1) + (i : Int)) rfl rfl (by omega)) (r (sla Tryz.underlying71 ti5 z7) ?_))))))
    obtain ⟨bz, hbz, lbz⟩ : ∃ z, z = (List.replicate 64 0).take 0 ++ ((dt.take dt.length).drop (min (i * 64) dt.length)).take (64 - 0) ++ (List.replicate 64 0).drop (0 + ((dt.take dt.length).drop (min (i * 64) dt.length)).length) ∧ z.length = 64 := ⟨_, rfl, by simp; omega⟩
    have H17 : Hold w F w18 [rB g7 71 (byts bz), rB ge 60 ((eC s b gp gw gd tv (qn + 1) actv usd op2 gl gk)), rPl gp (logs s b + s * b) rd2, rR kE 115 tv tab, rMW gm (wk.map kfP), rPool 2 pl, rB gl 2 ([.int .i64 (-1)]), rR u8 5 rbv dt] := (by rw [← hbz] at H16; exact H16)
    clear H16
    have H18 : Hold w F w18 [rB ge 60 ((eC s b gp gw gd tv (qn + 1) actv usd op2 gl gk)), rPl gp (logs s b + s * b) rd2, rB gl 2 ([.int .i64 (-1)]), rB g7 71 (byts bz), rR kE 115 tv tab, rMW gm (wk.map kfP), rPool 2 pl, rR u8 5 rbv dt] := Hold.re H17 [1, 2, 6, 0, 3, 4, 5, 7] (by kernel_rfl) (by rfl)
    clear H17
    obtain ⟨F21, hF21, n21, s21, K21⟩ := Hold.front (Γ := [rB ge 60 ((eC s b gp gw gd tv (qn + 1) actv usd op2 gl gk)), rPl gp (logs s b + s * b) rd2, rB gl 2 ([.int .i64 (-1)]), rB g7 71 (byts bz)]) (Δ := [rR kE 115 tv tab, rMW gm (wk.map kfP), rPool 2 pl, rR u8 5 rbv dt]) H18
    refine cl go136 (eng_put (ys := bz) (c := kk * (1 + tabs s b) + 1 + (i : Int)) hF21 n21 lbz ⟨by omega, by omega⟩) (ac rfl (ac rfl (ac rfl an))) ?_
    rintro _ wq ⟨op3, Hq⟩
    have H19 : Hold w F wq [rB ge 60 ((eC s b gp gw gd tv (qn + 1) actv usd op3 gl gk)), rPl gp (logs s b + s * b) (upR rd2 (kk * (1 + tabs s b) + 1 + (i : Int)) bz), rB gl 2 ([.int .i64 (-1)]), rB g7 71 (byts bz), rR kE 115 tv tab, rMW gm (wk.map kfP), rPool 2 pl, rR u8 5 rbv dt] := Hold.call K21 Hq
    clear H18
    clear K21 hF21 n21 s21
    clear Hq
    refine re (be (rg (r (ad (a := (i : Int)) (b := 1) ((i : Int) + 1) z35 rfl (by omega)) (r (mv rfl) (re ?_)))))
    have H20 : Hold w F wq [rB ge 60 ((eC s b gp gw gd tv (qn + 1) actv usd op3 gl gk)), rPl gp (logs s b + s * b) (upR rd2 (kk * (1 + tabs s b) + 1 + (i : Int)) bz), rR kE 115 tv tab, rMW gm (wk.map kfP), rPool 2 pl, rB gl 2 ([.int .i64 (-1)]), rR u8 5 rbv dt] := (show Hold w F wq ([rB ge 60 ((eC s b gp gw gd tv (qn + 1) actv usd op3 gl gk)), rPl gp (logs s b + s * b) (upR rd2 (kk * (1 + tabs s b) + 1 + (i : Int)) bz), rR kE 115 tv tab, rMW gm (wk.map kfP), rPool 2 pl, rB gl 2 ([.int .i64 (-1)]), rR u8 5 rbv dt] ++ [rB g7 71 (byts bz)]) from Hold.re H19 [0, 1, 4, 5, 6, 2, 7, 3] (by kernel_rfl) (by rfl)).drop
    clear H19
    exact ag (i + 1, op3, upR rd2 (kk * (1 + tabs s b) + 1 + (i : Int)) bz) ⟨z0, z4, z5, z34, rfl, H20, ⟨by omega, fun c hc => by rw [upR, if_neg (by omega)]; exact hrd c hc⟩⟩ (by first | omega | (dsimp only; omega))
  · have hH : hdr (qn + 1) s b := by unfold hdr; omega
    have H12 : Hold w F w511 [rB ge 60 ((eC s b gp gw gd tv (qn + 1) actv usd op2 gl gk)), rPl gp (logs s b + s * b) rd2, rB gl 2 ([.int .i64 (-1)]), rR kE 115 tv tab, rMW gm (wk.map kfP), rPool 2 pl, rR u8 5 rbv dt] := Hold.re H11 [0, 1, 5, 2, 3, 4, 6] (by kernel_rfl) (by rfl)
    clear H11
    obtain ⟨F13, hF13, n13, s13, K13⟩ := Hold.front (Γ := [rB ge 60 ((eC s b gp gw gd tv (qn + 1) actv usd op2 gl gk)), rPl gp (logs s b + s * b) rd2, rB gl 2 ([.int .i64 (-1)])]) (Δ := [rR kE 115 tv tab, rMW gm (wk.map kfP), rPool 2 pl, rR u8 5 rbv dt]) H12
    refine ex rfl (sq (rg (r (mv y0) (cl go137 (eng_sync hF13 n13) (ac rfl an) ?_))))
    rintro _ ws ⟨op4, Hs1⟩
    have H13 : Hold w F ws [rB ge 60 ((eC s b gp gw gd tv (qn + 1) actv usd op4 gl gk)), rPl gp (logs s b + s * b) rd2, rB gl 2 ([.int .i64 (-1)]), rR kE 115 tv tab, rMW gm (wk.map kfP), rPool 2 pl, rR u8 5 rbv dt] := Hold.call K13 Hs1
    clear H12
    clear K13 hF13 n13 s13
    clear Hs1
    refine re ?_
    refine sq ?_
    refine rde_cut (fun ρ w' => ∃ g8 : Nat, ρ 0 = .pointer (some ⟨ge, 0, none⟩) ∧ ρ 5 = .int .i64 (kk * (1 + tabs s b)) ∧ ρ 8 = .pointer (some ⟨g8, 0, none⟩) ∧ Hold w F w' [rB ge 60 ((eC s b gp gw gd tv (qn + 1) actv usd op4 gl gk)), rPl gp (logs s b + s * b) rd2, rR kE 115 tv tab, rMW gm (wk.map kfP), rPool 2 pl, rB gl 2 ([.int .i64 (-1)]), rB g8 71 (byts (encH (qn + 1) s b))]) mixed ?_ ?_
    · intro w15 c15
      have H14 : Hold w F w15 [rB ge 60 ((eC s b gp gw gd tv (qn + 1) actv usd op4 gl gk)), rPl gp (logs s b + s * b) rd2, rB gl 2 ([.int .i64 (-1)]), rR kE 115 tv tab, rMW gm (wk.map kfP), rPool 2 pl, rR u8 5 rbv dt] := Hold.t H13 c15
      clear H13
      clear c15
      have H16d0 : Hold w15 [] w15 [] := Hold.start w15
      refine ⟨fun w' => Ch [] w15 w', Ch.refl _ _, ?_⟩
      have b17 : B w15 ge 60 ((eC s b gp gw gd tv (qn + 1) actv usd op4 gl gk)) := Hold.blk H14 0 rfl
      refine edt 0 rfl (by kernel_rfl) (fun w' hS => mv y0) (edt 1 rfl (by kernel_rfl) (fun w' hS => nck rfl) (edt 2 rfl (by kernel_rfl) (fun w' hS => fa Tryz.underlying60 rfl ti2 rfl rfl) (edt 3 rfl (by kernel_rfl) (fun w' hS => ldb Tryz.underlying2 rfl rfl (hS.b0 b17) rfl) (edt 4 rfl (by kernel_rfl) (fun w' hS => mv y0) (edt 5 rfl (by kernel_rfl) (fun w' hS => nck rfl) (edt 6 rfl (by kernel_rfl) (fun w' hS => fa Tryz.underlying60 rfl ti25 rfl rfl) (edt 7 rfl (by kernel_rfl) (fun w' hS => fa Tryz.underlying25 rfl ti2 rfl rfl) (edt 8 rfl (by kernel_rfl) (fun w' hS => ldb Tryz.underlying2 rfl rfl (hS.b0 b17) rfl) (edt 9 rfl (by kernel_rfl) (fun w' hS => mv y0) (edt 10 rfl (by kernel_rfl) (fun w' hS => nck rfl) (edt 11 rfl (by kernel_rfl) (fun w' hS => fa Tryz.underlying60 rfl ti25 rfl rfl) (edt 12 rfl (by kernel_rfl) (fun w' hS => fa Tryz.underlying25 rfl ti2 rfl rfl) (edt 13 rfl (by kernel_rfl) (fun w' hS => ldb Tryz.underlying2 rfl rfl (hS.b0 b17) rfl) (edt 14 rfl (by kernel_rfl) (fun w' hS => bd (r := [.int .i64 (qn + 1), .int .i64 s, .int .i64 b]) ti73 pl73 (pc rfl (cel1 rfl) (pc rfl (cel1 rfl) (pc rfl (cel1 rfl) pn))) rfl) ?_))))))))))))))
      refine ed2 15 16 (by kernel_rfl) ?_ ?_
      · refine euc rfl go18 (ac rfl an) (Header_block hH) ?_
        rintro r wh ⟨rfl, ch⟩
        have H15d : Hold w15 [] wh [] := Hold.t H16d0 ch
        clear H16d0
        clear ch
        refine ⟨.inr (Hold.ch H15d), ?_⟩
        refine ed1 16 (by kernel_rfl) <| euf rfl (xal ti71) ?_
        rintro _ w19 ⟨g8, e19, rfl, -, b19, c19⟩
        have H16d : Hold w15 [] w19 [rB g8 71 (byts (List.replicate 64 0))] := Hold.newB H15d e19 b19 c19
        clear H15d
        clear e19 b19 c19
        refine ⟨.inr (Hold.ch H16d), ?_⟩
        have H17 : Hold w F w19 [rB ge 60 ((eC s b gp gw gd tv (qn + 1) actv usd op4 gl gk)), rPl gp (logs s b + s * b) rd2, rB gl 2 ([.int .i64 (-1)]), rR kE 115 tv tab, rMW gm (wk.map kfP), rPool 2 pl, rR u8 5 rbv dt, rB g8 71 (byts (List.replicate 64 0))] := Hold.news H14 H16d
        clear H16d H14
        have b20 : B w19 g8 71 (byts (List.replicate 64 0)) := Hold.blk H17 7 rfl
        refine ed1 17 (by kernel_rfl) <| euf0 rfl (xsta ti71 rfl rfl (encH_len (qn + 1) s b) b20 (by simp)) ?_
        rintro w21 ⟨-, b21, c21⟩
        have H18 : Hold w F w21 [rB ge 60 ((eC s b gp gw gd tv (qn + 1) actv usd op4 gl gk)), rPl gp (logs s b + s * b) rd2, rB gl 2 ([.int .i64 (-1)]), rR kE 115 tv tab, rMW gm (wk.map kfP), rPool 2 pl, rR u8 5 rbv dt, rB g8 71 (byts (encH (qn + 1) s b))] := Hold.setB H17 7 rfl b21 c21 rfl
        clear H17
        clear b21 c21
        refine ⟨.inl (by kernel_rfl), ?_⟩
        refine edd (by kernel_rfl) ?_
        have H19 : Hold w F w21 [rB ge 60 ((eC s b gp gw gd tv (qn + 1) actv usd op4 gl gk)), rPl gp (logs s b + s * b) rd2, rR kE 115 tv tab, rMW gm (wk.map kfP), rPool 2 pl, rB gl 2 ([.int .i64 (-1)]), rB g8 71 (byts (encH (qn + 1) s b))] := (show Hold w F w21 ([rB ge 60 ((eC s b gp gw gd tv (qn + 1) actv usd op4 gl gk)), rPl gp (logs s b + s * b) rd2, rR kE 115 tv tab, rMW gm (wk.map kfP), rPool 2 pl, rB gl 2 ([.int .i64 (-1)]), rB g8 71 (byts (encH (qn + 1) s b))] ++ [rR u8 5 rbv dt]) from Hold.re H18 [0, 1, 3, 4, 5, 2, 7, 6] (by kernel_rfl) (by rfl)).drop
        clear H18
        exact ⟨g8, y0, y5, rfl, H19⟩
      · refine euf rfl (xal ti71) ?_
        rintro _ w18 ⟨g8, e18, rfl, -, b18, c18⟩
        have H15d : Hold w15 [] w18 [rB g8 71 (byts (List.replicate 64 0))] := Hold.newB H16d0 e18 b18 c18
        clear H16d0
        clear e18 b18 c18
        refine ⟨.inr (Hold.ch H15d), ?_⟩
        refine ed1 15 (by kernel_rfl) <| euc rfl go18 (ac rfl an) (Header_block hH) ?_
        rintro r wh ⟨rfl, ch⟩
        have H16d : Hold w15 [] wh [rB g8 71 (byts (List.replicate 64 0))] := Hold.t H15d ch
        clear H15d
        clear ch
        refine ⟨.inr (Hold.ch H16d), ?_⟩
        have H17 : Hold w F wh [rB ge 60 ((eC s b gp gw gd tv (qn + 1) actv usd op4 gl gk)), rPl gp (logs s b + s * b) rd2, rB gl 2 ([.int .i64 (-1)]), rR kE 115 tv tab, rMW gm (wk.map kfP), rPool 2 pl, rR u8 5 rbv dt, rB g8 71 (byts (List.replicate 64 0))] := Hold.news H14 H16d
        clear H16d H14
        have b20 : B wh g8 71 (byts (List.replicate 64 0)) := Hold.blk H17 7 rfl
        refine ed1 17 (by kernel_rfl) <| euf0 rfl (xsta ti71 rfl rfl (encH_len (qn + 1) s b) b20 (by simp)) ?_
        rintro w21 ⟨-, b21, c21⟩
        have H18 : Hold w F w21 [rB ge 60 ((eC s b gp gw gd tv (qn + 1) actv usd op4 gl gk)), rPl gp (logs s b + s * b) rd2, rB gl 2 ([.int .i64 (-1)]), rR kE 115 tv tab, rMW gm (wk.map kfP), rPool 2 pl, rR u8 5 rbv dt, rB g8 71 (byts (encH (qn + 1) s b))] := Hold.setB H17 7 rfl b21 c21 rfl
        clear H17
        clear b21 c21
        refine ⟨.inl (by kernel_rfl), ?_⟩
        refine edd (by kernel_rfl) ?_
        have H19 : Hold w F w21 [rB ge 60 ((eC s b gp gw gd tv (qn + 1) actv usd op4 gl gk)), rPl gp (logs s b + s * b) rd2, rR kE 115 tv tab, rMW gm (wk.map kfP), rPool 2 pl, rB gl 2 ([.int .i64 (-1)]), rB g8 71 (byts (encH (qn + 1) s b))] := (show Hold w F w21 ([rB ge 60 ((eC s b gp gw gd tv (qn + 1) actv usd op4 gl gk)), rPl gp (logs s b + s * b) rd2, rR kE 115 tv tab, rMW gm (wk.map kfP), rPool 2 pl, rB gl 2 ([.int .i64 (-1)]), rB g8 71 (byts (encH (qn + 1) s b))] ++ [rR u8 5 rbv dt]) from Hold.re H18 [0, 1, 3, 4, 5, 2, 7, 6] (by kernel_rfl) (by rfl)).drop
        clear H18
        exact ⟨g8, y0, y5, rfl, H19⟩
    rintro ρ w563 ⟨g8, y0, y5, y8, H63⟩
    clear H13
    have H64 : Hold w F w563 [rB ge 60 ((eC s b gp gw gd tv (qn + 1) actv usd op4 gl gk)), rPl gp (logs s b + s * b) rd2, rB gl 2 ([.int .i64 (-1)]), rB g8 71 (byts (encH (qn + 1) s b)), rR kE 115 tv tab, rMW gm (wk.map kfP), rPool 2 pl] := Hold.re H63 [0, 1, 5, 6, 2, 3, 4] (by kernel_rfl) (by rfl)
    clear H63
    obtain ⟨F118, hF118, n118, s118, K118⟩ := Hold.front (Γ := [rB ge 60 ((eC s b gp gw gd tv (qn + 1) actv usd op4 gl gk)), rPl gp (logs s b + s * b) rd2, rB gl 2 ([.int .i64 (-1)]), rB g8 71 (byts (encH (qn + 1) s b))]) (Δ := [rR kE 115 tv tab, rMW gm (wk.map kfP), rPool 2 pl]) H64
    refine sq (rg (r (mv y0) (r (mv y5) (r (sla Tryz.underlying71 ti5 y8) (cl go136 (eng_put (ys := encH (qn + 1) s b) (c := kk * (1 + tabs s b)) hF118 n118 (encH_len (qn + 1) s b) ⟨by omega, by omega⟩) (ac rfl (ac rfl (ac rfl an))) ?_)))))
    rintro _ wq ⟨op5, Hq⟩
    have H65 : Hold w F wq [rB ge 60 ((eC s b gp gw gd tv (qn + 1) actv usd op5 gl gk)), rPl gp (logs s b + s * b) (upR rd2 (kk * (1 + tabs s b)) (encH (qn + 1) s b)), rB gl 2 ([.int .i64 (-1)]), rB g8 71 (byts (encH (qn + 1) s b)), rR kE 115 tv tab, rMW gm (wk.map kfP), rPool 2 pl] := Hold.call K118 Hq
    clear H64
    clear K118 hF118 n118 s118
    clear Hq
    obtain ⟨F119, hF119, n119, s119, K119⟩ := Hold.front (Γ := [rB ge 60 ((eC s b gp gw gd tv (qn + 1) actv usd op5 gl gk)), rPl gp (logs s b + s * b) (upR rd2 (kk * (1 + tabs s b)) (encH (qn + 1) s b)), rB gl 2 ([.int .i64 (-1)])]) (Δ := [rB g8 71 (byts (encH (qn + 1) s b)), rR kE 115 tv tab, rMW gm (wk.map kfP), rPool 2 pl]) H65
    refine re (rg (r (mv y0) (cl go137 (eng_sync hF119 n119) (ac rfl an) ?_)))
    rintro _ ws ⟨op6, Hs1⟩
    have H66 : Hold w F ws [rB ge 60 ((eC s b gp gw gd tv (qn + 1) actv usd op6 gl gk)), rPl gp (logs s b + s * b) (upR rd2 (kk * (1 + tabs s b)) (encH (qn + 1) s b)), rB gl 2 ([.int .i64 (-1)]), rB g8 71 (byts (encH (qn + 1) s b)), rR kE 115 tv tab, rMW gm (wk.map kfP), rPool 2 pl] := Hold.call K119 Hs1
    clear H65
    clear K119 hF119 n119 s119
    clear Hs1
    refine re ?_
    have H67 : Hold w F ws [rB ge 60 ((eC s b gp gw gd tv (qn + 1) actv usd op6 gl gk)), rPl gp (logs s b + s * b) (upR rd2 (kk * (1 + tabs s b)) (encH (qn + 1) s b)), rR kE 115 tv tab, rMW gm (wk.map kfP), rPool 2 pl, rB gl 2 ([.int .i64 (-1)])] := (show Hold w F ws ([rB ge 60 ((eC s b gp gw gd tv (qn + 1) actv usd op6 gl gk)), rPl gp (logs s b + s * b) (upR rd2 (kk * (1 + tabs s b)) (encH (qn + 1) s b)), rR kE 115 tv tab, rMW gm (wk.map kfP), rPool 2 pl, rB gl 2 ([.int .i64 (-1)])] ++ [rB g8 71 (byts (encH (qn + 1) s b))]) from Hold.re H66 [0, 1, 4, 5, 6, 2, 3] (by kernel_rfl) (by rfl)).drop
    clear H66
    exact fin0 Tryz.results96 ⟨_, _, fun c hc => by rw [upR, if_neg (by omega)]; exact hrd c hc, H67⟩
end Go.Proofs.YtanfhikfeabidaaGreatDoor

namespace Go.Proofs.YtanfhikfeabidaaGreatDoor
open Go Go.Eng
set_option maxRecDepth 100000
set_option maxHeartbeats 4000000
set_option linter.unusedVariables false
set_option linter.unusedSimpArgs false
/-- An answer: a code and data. -/
def ansV (c : Int) (d : ByteArray) : Value := .agg #[.int .i64 c, .string d, .slice none 0 0, .int .i64 0, .int .i64 0, .int .i64 0, .int .i64 0, .int .i64 0, .int .i64 0]
def noB : ByteArray := ⟨#[]⟩
theorem eng_forget {w : World} {F : List Nat} {ge gp gw gd gl gk : Nat} {tv : Value} {s b qn actv usd opn : Int} {wk du : List Kf} {nm : ByteArray} (h : Hs w [rB ge 60 ((eC s b gp gw gd tv qn actv usd opn gl gk)), rMW gw (wk.map kfP), rMW gd (du.map kfP)] F) (nd : F.Nodup) (hf : findK wk nm = none ∨ ∃ k d, findK wk nm = some k ∧ findK du nm = some d ∧ d.lid = k.lid) (how : ∀ k, k ∈ wk → k.lv.oneCell' = true) (hod : ∀ k, k ∈ du → k.lv.oneCell' = true) : Ret Tryz.prog 94 #[.pointer (some ⟨ge, 0, none⟩), .string nm] w (fun r w' => Hold w F w' [rB ge 60 ((eC s b gp gw gd tv qn actv usd opn gl gk)), rMW gw ((delK wk nm).map kfP), rMW gd (du.map kfP)]) := by
  refine enter Tryz.func94 rfl Tryz.ntmps94 (by rfl) (by rfl) ?_
  have H0 : Hold w F w [rB ge 60 ((eC s b gp gw gd tv qn actv usd opn gl gk)), rMW gw (wk.map kfP), rMW gd (du.map kfP)] := Hold.begin h nd
  rcases hf with hf | ⟨k, d, hf, hd, hl⟩
  · rcases hd : findK du nm with _ | d
    · have b1 : B w ge 60 ((eC s b gp gw gd tv qn actv usd opn gl gk)) := Hold.blk H0 0 rfl
      have b2 : MpW w gw (wk.map kfP) := Hold.mpw H0 1 rfl
      refine sq (rg (r (mv rfl) (r (nck rfl) (r (fa Tryz.underlying60 rfl ti56 rfl rfl) (r (fa Tryz.underlying56 rfl ti54 rfl rfl) (r (fa Tryz.underlying54 rfl ti52 rfl rfl) (r (ldb Tryz.underlying52 rfl rfl b1 rfl) (r (mv rfl) (r (Rn.cast (v' := .tuple #[.agg #[.int .i64 0, .string (⟨#[]⟩ : ByteArray), .int .i64 0, .slice none 0 0], .bool false]) (lkps Tryz.underlying52 Tryz.underlying9 ti91 rfl rfl (MpW.s b2)) (by rw [look_kf, hf]; rfl)) (r (mv rfl) (r (xt rfl rfl) (r (xt rfl rfl) (ef (xal ti91) ?_)))))))))))))
      rintro _ w3 ⟨g4, e3, rfl, -, b3, c3⟩
      have H1 : Hold w F w3 [rB ge 60 ((eC s b gp gw gd tv qn actv usd opn gl gk)), rMW gw (wk.map kfP), rMW gd (du.map kfP), rB g4 91 ([.int .i64 0, .string ⟨#[]⟩, .int .i64 0, .slice none 0 0])] := Hold.newB H0 e3 b3 c3
      clear H0
      clear e3 b3 c3
      have b4 : B w3 g4 91 ([.int .i64 0, .string ⟨#[]⟩, .int .i64 0, .slice none 0 0]) := Hold.blk H1 3 rfl
      refine ef0 (xst (vs := [.int .i64 0, .string (⟨#[]⟩ : ByteArray), .int .i64 0, .slice none 0 0]) ti91 rfl rfl rfl b4 rfl (Nat.le_of_ble_eq_true rfl) (one_all rfl)) ?_
      rintro w5 ⟨-, b5, c5⟩
      have H2 : Hold w F w5 [rB ge 60 ((eC s b gp gw gd tv qn actv usd opn gl gk)), rMW gw (wk.map kfP), rMW gd (du.map kfP), rB g4 91 ([.int .i64 0, .string (⟨#[]⟩ : ByteArray), .int .i64 0, .slice none 0 0])] := Hold.setB H1 3 rfl b5 c5 rfl
      clear H1
      clear b5 c5
      refine r (sa rfl) (re (sq ?_))
      refine gen (fun ρ => ρ 0 = .pointer (some ⟨ge, 0, none⟩) ∧ ρ 1 = .string nm ∧ ρ 4 = .pointer (some ⟨g4, 0, none⟩) ∧ ρ 5 = .bool false ∧ True) ⟨rfl, rfl, rfl, rfl, trivial⟩ ?_
      rintro ρ ⟨z0, z1, z4, z5, -⟩
      have b6 : B w5 ge 60 ((eC s b gp gw gd tv qn actv usd opn gl gk)) := Hold.blk H2 0 rfl
      have b7 : MpW w5 gw (wk.map kfP) := Hold.mpw H2 1 rfl
      refine rg (r (mv z0) (r (nck rfl) (r (fa Tryz.underlying60 rfl ti56 rfl rfl) (r (fa Tryz.underlying56 rfl ti54 rfl rfl) (r (fa Tryz.underlying54 rfl ti52 rfl rfl) (r (ldb Tryz.underlying52 rfl rfl b6 rfl) (r (mv z1) (ef (xdel Tryz.underlying52 Tryz.underlying9 rfl rfl rfl b7) ?_))))))))
      rintro _ w8 ⟨rfl, b8, c8⟩
      have H3 : Hold w F w8 [rB ge 60 ((eC s b gp gw gd tv qn actv usd opn gl gk)), rMW gw (delS (wk.map kfP) nm), rMW gd (du.map kfP), rB g4 91 ([.int .i64 0, .string (⟨#[]⟩ : ByteArray), .int .i64 0, .slice none 0 0])] := Hold.setMW H2 1 rfl b8 c8 rfl
      clear H2
      clear b8 c8
      have b9 : B w8 ge 60 ((eC s b gp gw gd tv qn actv usd opn gl gk)) := Hold.blk H3 0 rfl
      have b10 : MpW w8 gd (du.map kfP) := Hold.mpw H3 2 rfl
      refine re (sq (sq (rg (r (mv z0) (r (nck rfl) (r (fa Tryz.underlying60 rfl ti57 rfl rfl) (r (fa Tryz.underlying57 rfl ti54 rfl rfl) (r (fa Tryz.underlying54 rfl ti52 rfl rfl) (r (ldb Tryz.underlying52 rfl rfl b9 rfl) (r (mv z1) (r (Rn.cast (v' := .tuple #[.agg #[.int .i64 0, .string (⟨#[]⟩ : ByteArray), .int .i64 0, .slice none 0 0], .bool false]) (lkps Tryz.underlying52 Tryz.underlying9 ti91 rfl rfl (MpW.s b10)) (by rw [look_kf, hd]; rfl)) (r (mv rfl) (r (xt rfl rfl) (r (xt rfl rfl) (ef (xal ti91) ?_)))))))))))))))
      rintro _ w11 ⟨g6, e11, rfl, -, b11, c11⟩
      have H4 : Hold w F w11 [rB ge 60 ((eC s b gp gw gd tv qn actv usd opn gl gk)), rMW gw (delS (wk.map kfP) nm), rMW gd (du.map kfP), rB g4 91 ([.int .i64 0, .string (⟨#[]⟩ : ByteArray), .int .i64 0, .slice none 0 0]), rB g6 91 ([.int .i64 0, .string ⟨#[]⟩, .int .i64 0, .slice none 0 0])] := Hold.newB H3 e11 b11 c11
      clear H3
      clear e11 b11 c11
      have b12 : B w11 g6 91 ([.int .i64 0, .string ⟨#[]⟩, .int .i64 0, .slice none 0 0]) := Hold.blk H4 4 rfl
      refine ef0 (xst (vs := [.int .i64 0, .string (⟨#[]⟩ : ByteArray), .int .i64 0, .slice none 0 0]) ti91 rfl rfl rfl b12 rfl (Nat.le_of_ble_eq_true rfl) (one_all rfl)) ?_
      rintro w13 ⟨-, b13, c13⟩
      have H5 : Hold w F w13 [rB ge 60 ((eC s b gp gw gd tv qn actv usd opn gl gk)), rMW gw (delS (wk.map kfP) nm), rMW gd (du.map kfP), rB g4 91 ([.int .i64 0, .string (⟨#[]⟩ : ByteArray), .int .i64 0, .slice none 0 0]), rB g6 91 ([.int .i64 0, .string (⟨#[]⟩ : ByteArray), .int .i64 0, .slice none 0 0])] := Hold.setB H4 4 rfl b13 c13 rfl
      clear H4
      clear b13 c13
      refine r (sa rfl) (re (sq ?_))
      refine gen (fun ρ => ρ 0 = .pointer (some ⟨ge, 0, none⟩) ∧ ρ 4 = .pointer (some ⟨g4, 0, none⟩) ∧ ρ 5 = .bool false ∧ ρ 6 = .pointer (some ⟨g6, 0, none⟩) ∧ ρ 7 = .bool false ∧ True) ⟨z0, z4, z5, rfl, rfl, trivial⟩ ?_
      rintro ρ ⟨z0, z4, z5, z6, z7, -⟩
      refine rg (r (mv z5) (r (nt rfl) (r (mv rfl) (gn rfl rfl rfl (gn rfl rfl rfl (gu rfl rfl rfl (gu rfl rfl rfl (gu rfl rfl rfl (gu rfl rfl rfl (gu rfl rfl rfl (gn rfl rfl rfl (r (pk rfl rfl) (re (ct rfl (rt ?_)))))))))))))))
      have H6 : Hold w F w13 [rB ge 60 ((eC s b gp gw gd tv qn actv usd opn gl gk)), rMW gw ((delK wk nm).map kfP), rMW gd (du.map kfP), rB g4 91 ([.int .i64 0, .string (⟨#[]⟩ : ByteArray), .int .i64 0, .slice none 0 0]), rB g6 91 ([.int .i64 0, .string (⟨#[]⟩ : ByteArray), .int .i64 0, .slice none 0 0])] := (by rw [del_kf] at H5; exact H5)
      clear H5
      have H7 : Hold w F w13 [rB ge 60 ((eC s b gp gw gd tv qn actv usd opn gl gk)), rMW gw ((delK wk nm).map kfP), rMW gd (du.map kfP)] := (show Hold w F w13 ([rB ge 60 ((eC s b gp gw gd tv qn actv usd opn gl gk)), rMW gw ((delK wk nm).map kfP), rMW gd (du.map kfP)] ++ [rB g4 91 ([.int .i64 0, .string (⟨#[]⟩ : ByteArray), .int .i64 0, .slice none 0 0]), rB g6 91 ([.int .i64 0, .string (⟨#[]⟩ : ByteArray), .int .i64 0, .slice none 0 0])]) from Hold.re H6 [0, 1, 2, 3, 4] (by kernel_rfl) (by rfl)).drop
      clear H6
      exact fin0 Tryz.results94 H7
    · have hdm := hod d (findK_mem hd).1
      have b1 : B w ge 60 ((eC s b gp gw gd tv qn actv usd opn gl gk)) := Hold.blk H0 0 rfl
      have b2 : MpW w gw (wk.map kfP) := Hold.mpw H0 1 rfl
      refine sq (rg (r (mv rfl) (r (nck rfl) (r (fa Tryz.underlying60 rfl ti56 rfl rfl) (r (fa Tryz.underlying56 rfl ti54 rfl rfl) (r (fa Tryz.underlying54 rfl ti52 rfl rfl) (r (ldb Tryz.underlying52 rfl rfl b1 rfl) (r (mv rfl) (r (Rn.cast (v' := .tuple #[.agg #[.int .i64 0, .string (⟨#[]⟩ : ByteArray), .int .i64 0, .slice none 0 0], .bool false]) (lkps Tryz.underlying52 Tryz.underlying9 ti91 rfl rfl (MpW.s b2)) (by rw [look_kf, hf]; rfl)) (r (mv rfl) (r (xt rfl rfl) (r (xt rfl rfl) (ef (xal ti91) ?_)))))))))))))
      rintro _ w3 ⟨g4, e3, rfl, -, b3, c3⟩
      have H1 : Hold w F w3 [rB ge 60 ((eC s b gp gw gd tv qn actv usd opn gl gk)), rMW gw (wk.map kfP), rMW gd (du.map kfP), rB g4 91 ([.int .i64 0, .string ⟨#[]⟩, .int .i64 0, .slice none 0 0])] := Hold.newB H0 e3 b3 c3
      clear H0
      clear e3 b3 c3
      have b4 : B w3 g4 91 ([.int .i64 0, .string ⟨#[]⟩, .int .i64 0, .slice none 0 0]) := Hold.blk H1 3 rfl
      refine ef0 (xst (vs := [.int .i64 0, .string (⟨#[]⟩ : ByteArray), .int .i64 0, .slice none 0 0]) ti91 rfl rfl rfl b4 rfl (Nat.le_of_ble_eq_true rfl) (one_all rfl)) ?_
      rintro w5 ⟨-, b5, c5⟩
      have H2 : Hold w F w5 [rB ge 60 ((eC s b gp gw gd tv qn actv usd opn gl gk)), rMW gw (wk.map kfP), rMW gd (du.map kfP), rB g4 91 ([.int .i64 0, .string (⟨#[]⟩ : ByteArray), .int .i64 0, .slice none 0 0])] := Hold.setB H1 3 rfl b5 c5 rfl
      clear H1
      clear b5 c5
      refine r (sa rfl) (re (sq ?_))
      refine gen (fun ρ => ρ 0 = .pointer (some ⟨ge, 0, none⟩) ∧ ρ 1 = .string nm ∧ ρ 4 = .pointer (some ⟨g4, 0, none⟩) ∧ ρ 5 = .bool false ∧ True) ⟨rfl, rfl, rfl, rfl, trivial⟩ ?_
      rintro ρ ⟨z0, z1, z4, z5, -⟩
      have b6 : B w5 ge 60 ((eC s b gp gw gd tv qn actv usd opn gl gk)) := Hold.blk H2 0 rfl
      have b7 : MpW w5 gw (wk.map kfP) := Hold.mpw H2 1 rfl
      refine rg (r (mv z0) (r (nck rfl) (r (fa Tryz.underlying60 rfl ti56 rfl rfl) (r (fa Tryz.underlying56 rfl ti54 rfl rfl) (r (fa Tryz.underlying54 rfl ti52 rfl rfl) (r (ldb Tryz.underlying52 rfl rfl b6 rfl) (r (mv z1) (ef (xdel Tryz.underlying52 Tryz.underlying9 rfl rfl rfl b7) ?_))))))))
      rintro _ w8 ⟨rfl, b8, c8⟩
      have H3 : Hold w F w8 [rB ge 60 ((eC s b gp gw gd tv qn actv usd opn gl gk)), rMW gw (delS (wk.map kfP) nm), rMW gd (du.map kfP), rB g4 91 ([.int .i64 0, .string (⟨#[]⟩ : ByteArray), .int .i64 0, .slice none 0 0])] := Hold.setMW H2 1 rfl b8 c8 rfl
      clear H2
      clear b8 c8
      have b9 : B w8 ge 60 ((eC s b gp gw gd tv qn actv usd opn gl gk)) := Hold.blk H3 0 rfl
      have b10 : MpW w8 gd (du.map kfP) := Hold.mpw H3 2 rfl
      refine re (sq (sq (rg (r (mv z0) (r (nck rfl) (r (fa Tryz.underlying60 rfl ti57 rfl rfl) (r (fa Tryz.underlying57 rfl ti54 rfl rfl) (r (fa Tryz.underlying54 rfl ti52 rfl rfl) (r (ldb Tryz.underlying52 rfl rfl b9 rfl) (r (mv z1) (r (Rn.cast (v' := .tuple #[.agg #[.int .i64 d.lid, .string d.nm, .int .i64 d.sz, d.lv], .bool true]) (lkps Tryz.underlying52 Tryz.underlying9 ti91 rfl rfl (MpW.s b10)) (by rw [look_kf, hd]; rfl)) (r (mv rfl) (r (xt rfl rfl) (r (xt rfl rfl) (ef (xal ti91) ?_)))))))))))))))
      rintro _ w11 ⟨g6, e11, rfl, -, b11, c11⟩
      have H4 : Hold w F w11 [rB ge 60 ((eC s b gp gw gd tv qn actv usd opn gl gk)), rMW gw (delS (wk.map kfP) nm), rMW gd (du.map kfP), rB g4 91 ([.int .i64 0, .string (⟨#[]⟩ : ByteArray), .int .i64 0, .slice none 0 0]), rB g6 91 ([.int .i64 0, .string ⟨#[]⟩, .int .i64 0, .slice none 0 0])] := Hold.newB H3 e11 b11 c11
      clear H3
      clear e11 b11 c11
      have b12 : B w11 g6 91 ([.int .i64 0, .string ⟨#[]⟩, .int .i64 0, .slice none 0 0]) := Hold.blk H4 4 rfl
      refine ef0 (xst (vs := [.int .i64 d.lid, .string d.nm, .int .i64 d.sz, d.lv]) ti91 rfl rfl rfl b12 rfl (Nat.le_of_ble_eq_true rfl) (oc rfl (oc rfl (oc rfl (oc hdm on))))) ?_
      rintro w13 ⟨-, b13, c13⟩
      have H5 : Hold w F w13 [rB ge 60 ((eC s b gp gw gd tv qn actv usd opn gl gk)), rMW gw (delS (wk.map kfP) nm), rMW gd (du.map kfP), rB g4 91 ([.int .i64 0, .string (⟨#[]⟩ : ByteArray), .int .i64 0, .slice none 0 0]), rB g6 91 ([.int .i64 d.lid, .string d.nm, .int .i64 d.sz, d.lv])] := Hold.setB H4 4 rfl b13 c13 rfl
      clear H4
      clear b13 c13
      refine r (sa rfl) (re (sq ?_))
      refine gen (fun ρ => ρ 0 = .pointer (some ⟨ge, 0, none⟩) ∧ ρ 4 = .pointer (some ⟨g4, 0, none⟩) ∧ ρ 5 = .bool false ∧ ρ 6 = .pointer (some ⟨g6, 0, none⟩) ∧ ρ 7 = .bool true ∧ True) ⟨z0, z4, z5, rfl, rfl, trivial⟩ ?_
      rintro ρ ⟨z0, z4, z5, z6, z7, -⟩
      refine rg (r (mv z5) (r (nt rfl) (r (mv rfl) (gn rfl rfl rfl (gn rfl rfl rfl (gu rfl rfl rfl (gu rfl rfl rfl (gu rfl rfl rfl (gu rfl rfl rfl (gu rfl rfl rfl (gn rfl rfl rfl (r (pk rfl rfl) (re (ct rfl (rt ?_)))))))))))))))
      have H6 : Hold w F w13 [rB ge 60 ((eC s b gp gw gd tv qn actv usd opn gl gk)), rMW gw ((delK wk nm).map kfP), rMW gd (du.map kfP), rB g4 91 ([.int .i64 0, .string (⟨#[]⟩ : ByteArray), .int .i64 0, .slice none 0 0]), rB g6 91 ([.int .i64 d.lid, .string d.nm, .int .i64 d.sz, d.lv])] := (by rw [del_kf] at H5; exact H5)
      clear H5
      have H7 : Hold w F w13 [rB ge 60 ((eC s b gp gw gd tv qn actv usd opn gl gk)), rMW gw ((delK wk nm).map kfP), rMW gd (du.map kfP)] := (show Hold w F w13 ([rB ge 60 ((eC s b gp gw gd tv qn actv usd opn gl gk)), rMW gw ((delK wk nm).map kfP), rMW gd (du.map kfP)] ++ [rB g4 91 ([.int .i64 0, .string (⟨#[]⟩ : ByteArray), .int .i64 0, .slice none 0 0]), rB g6 91 ([.int .i64 d.lid, .string d.nm, .int .i64 d.sz, d.lv])]) from Hold.re H6 [0, 1, 2, 3, 4] (by kernel_rfl) (by rfl)).drop
      clear H6
      exact fin0 Tryz.results94 H7
  · have hkm := how k (findK_mem hf).1
    have hdm := hod d (findK_mem hd).1
    have b1 : B w ge 60 ((eC s b gp gw gd tv qn actv usd opn gl gk)) := Hold.blk H0 0 rfl
    have b2 : MpW w gw (wk.map kfP) := Hold.mpw H0 1 rfl
    refine sq (rg (r (mv rfl) (r (nck rfl) (r (fa Tryz.underlying60 rfl ti56 rfl rfl) (r (fa Tryz.underlying56 rfl ti54 rfl rfl) (r (fa Tryz.underlying54 rfl ti52 rfl rfl) (r (ldb Tryz.underlying52 rfl rfl b1 rfl) (r (mv rfl) (r (Rn.cast (v' := .tuple #[.agg #[.int .i64 k.lid, .string k.nm, .int .i64 k.sz, k.lv], .bool true]) (lkps Tryz.underlying52 Tryz.underlying9 ti91 rfl rfl (MpW.s b2)) (by rw [look_kf, hf]; rfl)) (r (mv rfl) (r (xt rfl rfl) (r (xt rfl rfl) (ef (xal ti91) ?_)))))))))))))
    rintro _ w3 ⟨g4, e3, rfl, -, b3, c3⟩
    have H1 : Hold w F w3 [rB ge 60 ((eC s b gp gw gd tv qn actv usd opn gl gk)), rMW gw (wk.map kfP), rMW gd (du.map kfP), rB g4 91 ([.int .i64 0, .string ⟨#[]⟩, .int .i64 0, .slice none 0 0])] := Hold.newB H0 e3 b3 c3
    clear H0
    clear e3 b3 c3
    have b4 : B w3 g4 91 ([.int .i64 0, .string ⟨#[]⟩, .int .i64 0, .slice none 0 0]) := Hold.blk H1 3 rfl
    refine ef0 (xst (vs := [.int .i64 k.lid, .string k.nm, .int .i64 k.sz, k.lv]) ti91 rfl rfl rfl b4 rfl (Nat.le_of_ble_eq_true rfl) (oc rfl (oc rfl (oc rfl (oc hkm on))))) ?_
    rintro w5 ⟨-, b5, c5⟩
    have H2 : Hold w F w5 [rB ge 60 ((eC s b gp gw gd tv qn actv usd opn gl gk)), rMW gw (wk.map kfP), rMW gd (du.map kfP), rB g4 91 ([.int .i64 k.lid, .string k.nm, .int .i64 k.sz, k.lv])] := Hold.setB H1 3 rfl b5 c5 rfl
    clear H1
    clear b5 c5
    refine r (sa rfl) (re (sq ?_))
    refine gen (fun ρ => ρ 0 = .pointer (some ⟨ge, 0, none⟩) ∧ ρ 1 = .string nm ∧ ρ 4 = .pointer (some ⟨g4, 0, none⟩) ∧ ρ 5 = .bool true ∧ True) ⟨rfl, rfl, rfl, rfl, trivial⟩ ?_
    rintro ρ ⟨z0, z1, z4, z5, -⟩
    have b6 : B w5 ge 60 ((eC s b gp gw gd tv qn actv usd opn gl gk)) := Hold.blk H2 0 rfl
    have b7 : MpW w5 gw (wk.map kfP) := Hold.mpw H2 1 rfl
    refine rg (r (mv z0) (r (nck rfl) (r (fa Tryz.underlying60 rfl ti56 rfl rfl) (r (fa Tryz.underlying56 rfl ti54 rfl rfl) (r (fa Tryz.underlying54 rfl ti52 rfl rfl) (r (ldb Tryz.underlying52 rfl rfl b6 rfl) (r (mv z1) (ef (xdel Tryz.underlying52 Tryz.underlying9 rfl rfl rfl b7) ?_))))))))
    rintro _ w8 ⟨rfl, b8, c8⟩
    have H3 : Hold w F w8 [rB ge 60 ((eC s b gp gw gd tv qn actv usd opn gl gk)), rMW gw (delS (wk.map kfP) nm), rMW gd (du.map kfP), rB g4 91 ([.int .i64 k.lid, .string k.nm, .int .i64 k.sz, k.lv])] := Hold.setMW H2 1 rfl b8 c8 rfl
    clear H2
    clear b8 c8
    have b9 : B w8 ge 60 ((eC s b gp gw gd tv qn actv usd opn gl gk)) := Hold.blk H3 0 rfl
    have b10 : MpW w8 gd (du.map kfP) := Hold.mpw H3 2 rfl
    refine re (sq (sq (rg (r (mv z0) (r (nck rfl) (r (fa Tryz.underlying60 rfl ti57 rfl rfl) (r (fa Tryz.underlying57 rfl ti54 rfl rfl) (r (fa Tryz.underlying54 rfl ti52 rfl rfl) (r (ldb Tryz.underlying52 rfl rfl b9 rfl) (r (mv z1) (r (Rn.cast (v' := .tuple #[.agg #[.int .i64 d.lid, .string d.nm, .int .i64 d.sz, d.lv], .bool true]) (lkps Tryz.underlying52 Tryz.underlying9 ti91 rfl rfl (MpW.s b10)) (by rw [look_kf, hd]; rfl)) (r (mv rfl) (r (xt rfl rfl) (r (xt rfl rfl) (ef (xal ti91) ?_)))))))))))))))
    rintro _ w11 ⟨g6, e11, rfl, -, b11, c11⟩
    have H4 : Hold w F w11 [rB ge 60 ((eC s b gp gw gd tv qn actv usd opn gl gk)), rMW gw (delS (wk.map kfP) nm), rMW gd (du.map kfP), rB g4 91 ([.int .i64 k.lid, .string k.nm, .int .i64 k.sz, k.lv]), rB g6 91 ([.int .i64 0, .string ⟨#[]⟩, .int .i64 0, .slice none 0 0])] := Hold.newB H3 e11 b11 c11
    clear H3
    clear e11 b11 c11
    have b12 : B w11 g6 91 ([.int .i64 0, .string ⟨#[]⟩, .int .i64 0, .slice none 0 0]) := Hold.blk H4 4 rfl
    refine ef0 (xst (vs := [.int .i64 d.lid, .string d.nm, .int .i64 d.sz, d.lv]) ti91 rfl rfl rfl b12 rfl (Nat.le_of_ble_eq_true rfl) (oc rfl (oc rfl (oc rfl (oc hdm on))))) ?_
    rintro w13 ⟨-, b13, c13⟩
    have H5 : Hold w F w13 [rB ge 60 ((eC s b gp gw gd tv qn actv usd opn gl gk)), rMW gw (delS (wk.map kfP) nm), rMW gd (du.map kfP), rB g4 91 ([.int .i64 k.lid, .string k.nm, .int .i64 k.sz, k.lv]), rB g6 91 ([.int .i64 d.lid, .string d.nm, .int .i64 d.sz, d.lv])] := Hold.setB H4 4 rfl b13 c13 rfl
    clear H4
    clear b13 c13
    refine r (sa rfl) (re (sq ?_))
    refine gen (fun ρ => ρ 0 = .pointer (some ⟨ge, 0, none⟩) ∧ ρ 4 = .pointer (some ⟨g4, 0, none⟩) ∧ ρ 5 = .bool true ∧ ρ 6 = .pointer (some ⟨g6, 0, none⟩) ∧ ρ 7 = .bool true ∧ True) ⟨z0, z4, z5, rfl, rfl, trivial⟩ ?_
    rintro ρ ⟨z0, z4, z5, z6, z7, -⟩
    have b14 : B w13 g6 91 ([.int .i64 d.lid, .string d.nm, .int .i64 d.sz, d.lv]) := Hold.blk H5 4 rfl
    have b15 : B w13 g4 91 ([.int .i64 k.lid, .string k.nm, .int .i64 k.sz, k.lv]) := Hold.blk H5 3 rfl
    refine rg (r (mv z5) (r (nt rfl) (r (mv rfl) (gy rfl rfl rfl (r (mv z7) (gy rfl rfl rfl (r (mv rfl) (gy rfl rfl rfl (r (fa Tryz.underlying91 rfl ti2 rfl z6) (gy rfl rfl rfl (r (ldb Tryz.underlying2 rfl rfl b14 rfl) (gy rfl rfl rfl (r (fa Tryz.underlying91 rfl ti2 rfl z4) (gy rfl rfl rfl (r (ldb Tryz.underlying2 rfl rfl b15 rfl) (gy rfl rfl rfl (r (Rn.cast (v' := .bool true) (bi rfl rfl rfl) (congrArg Value.bool (by simp [hl]))) (gy rfl rfl rfl (r (pk rfl rfl) (r (pk rfl rfl) (re (ct rfl (rt ?_)))))))))))))))))))))))
    have H6 : Hold w F w13 [rB ge 60 ((eC s b gp gw gd tv qn actv usd opn gl gk)), rMW gw ((delK wk nm).map kfP), rMW gd (du.map kfP), rB g4 91 ([.int .i64 k.lid, .string k.nm, .int .i64 k.sz, k.lv]), rB g6 91 ([.int .i64 d.lid, .string d.nm, .int .i64 d.sz, d.lv])] := (by rw [del_kf] at H5; exact H5)
    clear H5
    have H7 : Hold w F w13 [rB ge 60 ((eC s b gp gw gd tv qn actv usd opn gl gk)), rMW gw ((delK wk nm).map kfP), rMW gd (du.map kfP)] := (show Hold w F w13 ([rB ge 60 ((eC s b gp gw gd tv qn actv usd opn gl gk)), rMW gw ((delK wk nm).map kfP), rMW gd (du.map kfP)] ++ [rB g4 91 ([.int .i64 k.lid, .string k.nm, .int .i64 k.sz, k.lv]), rB g6 91 ([.int .i64 d.lid, .string d.nm, .int .i64 d.sz, d.lv])]) from Hold.re H6 [0, 1, 2, 3, 4] (by kernel_rfl) (by rfl)).drop
    clear H6
    exact fin0 Tryz.results94 H7
theorem eng_remove {w : World} {F : List Nat} {ge gp gw gd gl gk : Nat} {tv : Value} {s b qn actv usd opn : Int} {wk du : List Kf} {nm : ByteArray} {ck cz : Int} {cd : ByteArray} (h : Hs w [rB ge 60 ((eC s b gp gw gd tv qn actv usd opn gl gk)), rMW gw (wk.map kfP), rMW gd (du.map kfP)] F) (nd : F.Nodup) (hf : findK wk nm = none ∨ ∃ k d, findK wk nm = some k ∧ findK du nm = some d ∧ d.lid = k.lid) (how : ∀ k, k ∈ wk → k.lv.oneCell' = true) (hod : ∀ k, k ∈ du → k.lv.oneCell' = true) : Ret Tryz.prog 56 #[.pointer (some ⟨ge, 0, none⟩), .agg #[.int .i64 ck, .string nm, .string cd, .int .i64 cz]] w (fun r w' => r = ansV 0 noB ∧ Hold w F w' [rB ge 60 ((eC s b gp gw gd tv qn actv usd opn gl gk)), rMW gw ((delK wk nm).map kfP), rMW gd (du.map kfP)]) := by
  refine enter Tryz.func56 rfl Tryz.ntmps56 (by rfl) (by rfl) ?_
  have H0 : Hold w F w [rB ge 60 ((eC s b gp gw gd tv qn actv usd opn gl gk)), rMW gw (wk.map kfP), rMW gd (du.map kfP)] := Hold.begin h nd
  refine sq (rg (ef (xbx (t := 29) rfl rfl) ?_))
  rintro _ w1 ⟨g3, e1, rfl, -, b1, c1⟩
  have H1 : Hold w F w1 [rB ge 60 ((eC s b gp gw gd tv qn actv usd opn gl gk)), rMW gw (wk.map kfP), rMW gd (du.map kfP), rB g3 29 ([.int .i64 ck, .string nm, .string cd, .int .i64 cz])] := Hold.newB H0 e1 b1 c1
  clear H0
  clear e1 b1 c1
  refine ef (xal ti42) ?_
  rintro _ w2 ⟨g4, e2, rfl, -, b2, c2⟩
  have H2 : Hold w F w2 [rB ge 60 ((eC s b gp gw gd tv qn actv usd opn gl gk)), rMW gw (wk.map kfP), rMW gd (du.map kfP), rB g3 29 ([.int .i64 ck, .string nm, .string cd, .int .i64 cz]), rB g4 42 ([.int .i64 0, .string ⟨#[]⟩, .slice none 0 0, .int .i64 0, .int .i64 0, .int .i64 0, .int .i64 0, .int .i64 0, .int .i64 0])] := Hold.newB H1 e2 b2 c2
  clear H1
  clear e2 b2 c2
  have b3 : B w2 g3 29 ([.int .i64 ck, .string nm, .string cd, .int .i64 cz]) := Hold.blk H2 3 rfl
  obtain ⟨F4, hF4, n4, s4, K4⟩ := Hold.front (Γ := [rB ge 60 ((eC s b gp gw gd tv qn actv usd opn gl gk)), rMW gw (wk.map kfP), rMW gd (du.map kfP)]) (Δ := [rB g3 29 ([.int .i64 ck, .string nm, .string cd, .int .i64 cz]), rB g4 42 ([.int .i64 0, .string ⟨#[]⟩, .slice none 0 0, .int .i64 0, .int .i64 0, .int .i64 0, .int .i64 0, .int .i64 0, .int .i64 0])]) H2
  refine re (sq (rg (r (mv rfl) (r (fa Tryz.underlying29 rfl ti9 rfl rfl) (r (ldb Tryz.underlying9 rfl rfl b3 rfl) (cl go94 (eng_forget hF4 n4 hf how hod) (ac rfl (ac rfl an)) ?_))))))
  rintro _ wf Hf
  have H3 : Hold w F wf [rB ge 60 ((eC s b gp gw gd tv qn actv usd opn gl gk)), rMW gw ((delK wk nm).map kfP), rMW gd (du.map kfP), rB g3 29 ([.int .i64 ck, .string nm, .string cd, .int .i64 cz]), rB g4 42 ([.int .i64 0, .string ⟨#[]⟩, .slice none 0 0, .int .i64 0, .int .i64 0, .int .i64 0, .int .i64 0, .int .i64 0, .int .i64 0])] := Hold.call K4 Hf
  clear H2
  clear K4 hF4 n4 s4
  clear Hf
  have b5 : B wf g4 42 ([.int .i64 0, .string ⟨#[]⟩, .slice none 0 0, .int .i64 0, .int .i64 0, .int .i64 0, .int .i64 0, .int .i64 0, .int .i64 0]) := Hold.blk H3 4 rfl
  refine re (sq (rg (r (bd (r := [.int .i64 0, .string ⟨#[]⟩, .slice none 0 0, .int .i64 0, .int .i64 0, .int .i64 0, .int .i64 0, .int .i64 0, .int .i64 0]) ti42 pl42 pn rfl) (ef0 (xst (vs := [.int .i64 0, .string ⟨#[]⟩, .slice none 0 0, .int .i64 0, .int .i64 0, .int .i64 0, .int .i64 0, .int .i64 0, .int .i64 0]) ti42 rfl rfl rfl b5 rfl (Nat.le_of_ble_eq_true rfl) (one_all rfl)) ?_))))
  rintro w6 ⟨-, b6, c6⟩
  have H4 : Hold w F w6 [rB ge 60 ((eC s b gp gw gd tv qn actv usd opn gl gk)), rMW gw ((delK wk nm).map kfP), rMW gd (du.map kfP), rB g3 29 ([.int .i64 ck, .string nm, .string cd, .int .i64 cz]), rB g4 42 ([.int .i64 0, .string ⟨#[]⟩, .slice none 0 0, .int .i64 0, .int .i64 0, .int .i64 0, .int .i64 0, .int .i64 0, .int .i64 0])] := Hold.setB H3 4 rfl b6 c6 rfl
  clear H3
  clear b6 c6
  refine re (rt ?_)
  have b7 : B w6 g4 42 ([.int .i64 0, .string ⟨#[]⟩, .slice none 0 0, .int .i64 0, .int .i64 0, .int .i64 0, .int .i64 0, .int .i64 0, .int .i64 0]) := Hold.blk H4 4 rfl
  have H5 : Hold w F w6 [rB ge 60 ((eC s b gp gw gd tv qn actv usd opn gl gk)), rMW gw ((delK wk nm).map kfP), rMW gd (du.map kfP)] := (show Hold w F w6 ([rB ge 60 ((eC s b gp gw gd tv qn actv usd opn gl gk)), rMW gw ((delK wk nm).map kfP), rMW gd (du.map kfP)] ++ [rB g3 29 ([.int .i64 ck, .string nm, .string cd, .int .i64 cz]), rB g4 42 ([.int .i64 0, .string ⟨#[]⟩, .slice none 0 0, .int .i64 0, .int .i64 0, .int .i64 0, .int .i64 0, .int .i64 0, .int .i64 0])]) from Hold.re H4 [0, 1, 2, 3, 4] (by kernel_rfl) (by rfl)).drop
  clear H4
  exact finc  (cs := [.int .i64 0, .string ⟨#[]⟩, .slice none 0 0, .int .i64 0, .int .i64 0, .int .i64 0, .int .i64 0, .int .i64 0, .int .i64 0]) Tryz.results56 Tryz.underlying42 rfl ti42 rfl b7 rfl  ⟨rfl, H5⟩
theorem eng_syncFiles {w : World} {F : List Nat} {ge gp gw gd gl gk : Nat} {tv : Value} {s b qn actv usd opn : Int} {rdf : Int → List Int} {tab : List (Int × Bool)} {wk du : List Kf} {pl : List (Value × List Int)} {ck cz : Int} {nm cd : ByteArray} (h : Hs w [rB ge 60 ((eC s b gp gw gd tv qn actv usd opn gl gk)), rPl gp (logs s b + s * b) rdf, rR kE 115 tv tab, rMW gw (wk.map kfP), rMW gd (du.map kfP), rPool 2 pl, rB gl 2 ([.int .i64 (-1)])] F) (nd : F.Nodup) (hg : geo s b) (lt : tab.length ≤ 2000)
    (hwk : ∀ k, k ∈ wk → KfOk tab.length pl k) (hq : 0 ≤ qn ∧ qn ≤ 1000000) : Ret Tryz.prog 58 #[.pointer (some ⟨ge, 0, none⟩), .agg #[.int .i64 ck, .string nm, .string cd, .int .i64 cz]] w (fun r w' => ∃ op' rd' gd' tv', r = ansV 0 noB ∧ (∀ c, logs s b ≤ c → rd' c = rdf c) ∧ Hold w F w' [rB ge 60 ((eC s b gp gw gd' tv' (qn + 1) actv usd op' gl gk)), rPl gp (logs s b + s * b) rd', rR kE 115 tv' (ownT tab (ownB wk)), rMW gw (wk.map kfP), rMW gd' (wk.map kfP), rPool 2 pl, rB gl 2 ([.int .i64 (-1)])]) := by
  refine enter Tryz.func58 rfl Tryz.ntmps58 (by rfl) (by rfl) ?_
  have H0 : Hold w F w [rB ge 60 ((eC s b gp gw gd tv qn actv usd opn gl gk)), rPl gp (logs s b + s * b) rdf, rR kE 115 tv tab, rMW gw (wk.map kfP), rMW gd (du.map kfP), rPool 2 pl, rB gl 2 ([.int .i64 (-1)])] := Hold.begin h nd
  refine sq (rg (ef (xbx (t := 29) rfl rfl) ?_))
  rintro _ w1 ⟨g3, e1, rfl, -, b1, c1⟩
  have H1 : Hold w F w1 [rB ge 60 ((eC s b gp gw gd tv qn actv usd opn gl gk)), rPl gp (logs s b + s * b) rdf, rR kE 115 tv tab, rMW gw (wk.map kfP), rMW gd (du.map kfP), rPool 2 pl, rB gl 2 ([.int .i64 (-1)]), rB g3 29 ([.int .i64 ck, .string nm, .string cd, .int .i64 cz])] := Hold.newB H0 e1 b1 c1
  clear H0
  clear e1 b1 c1
  refine ef (xal ti42) ?_
  rintro _ w2 ⟨g4, e2, rfl, -, b2, c2⟩
  have H2 : Hold w F w2 [rB ge 60 ((eC s b gp gw gd tv qn actv usd opn gl gk)), rPl gp (logs s b + s * b) rdf, rR kE 115 tv tab, rMW gw (wk.map kfP), rMW gd (du.map kfP), rPool 2 pl, rB gl 2 ([.int .i64 (-1)]), rB g3 29 ([.int .i64 ck, .string nm, .string cd, .int .i64 cz]), rB g4 42 ([.int .i64 0, .string ⟨#[]⟩, .slice none 0 0, .int .i64 0, .int .i64 0, .int .i64 0, .int .i64 0, .int .i64 0, .int .i64 0])] := Hold.newB H1 e2 b2 c2
  clear H1
  clear e2 b2 c2
  have b3 : B w2 ge 60 ((eC s b gp gw gd tv qn actv usd opn gl gk)) := Hold.blk H2 0 rfl
  have H3 : Hold w F w2 [rB ge 60 ((eC s b gp gw gd tv qn actv usd opn gl gk)), rPl gp (logs s b + s * b) rdf, rR kE 115 tv tab, rMW gw (wk.map kfP), rPool 2 pl, rB gl 2 ([.int .i64 (-1)]), rMW gd (du.map kfP), rB g3 29 ([.int .i64 ck, .string nm, .string cd, .int .i64 cz]), rB g4 42 ([.int .i64 0, .string ⟨#[]⟩, .slice none 0 0, .int .i64 0, .int .i64 0, .int .i64 0, .int .i64 0, .int .i64 0, .int .i64 0])] := Hold.re H2 [0, 1, 2, 3, 5, 6, 4, 7, 8] (by kernel_rfl) (by rfl)
  clear H2
  obtain ⟨F4, hF4, n4, s4, K4⟩ := Hold.front (Γ := [rB ge 60 ((eC s b gp gw gd tv qn actv usd opn gl gk)), rPl gp (logs s b + s * b) rdf, rR kE 115 tv tab, rMW gw (wk.map kfP), rPool 2 pl, rB gl 2 ([.int .i64 (-1)])]) (Δ := [rMW gd (du.map kfP), rB g3 29 ([.int .i64 ck, .string nm, .string cd, .int .i64 cz]), rB g4 42 ([.int .i64 0, .string ⟨#[]⟩, .slice none 0 0, .int .i64 0, .int .i64 0, .int .i64 0, .int .i64 0, .int .i64 0, .int .i64 0])]) H3
  refine re (sq (rg (r (mv rfl) (r (mv rfl) (r (nck rfl) (r (fa Tryz.underlying60 rfl ti56 rfl rfl) (r (fa Tryz.underlying56 rfl ti54 rfl rfl) (r (lab [.map (some gw)] Tryz.underlying54 rfl ti54 rfl b3 rfl rfl) (cl go96 (eng_checkpoint hF4 n4 hg lt hwk hq) (ac rfl (ac rfl an)) ?_)))))))))
  rintro _ wc ⟨op', rd', hrd, Hc⟩
  have H4 : Hold w F wc [rB ge 60 ((eC s b gp gw gd tv (qn + 1) actv usd op' gl gk)), rPl gp (logs s b + s * b) rd', rR kE 115 tv tab, rMW gw (wk.map kfP), rPool 2 pl, rB gl 2 ([.int .i64 (-1)]), rMW gd (du.map kfP), rB g3 29 ([.int .i64 ck, .string nm, .string cd, .int .i64 cz]), rB g4 42 ([.int .i64 0, .string ⟨#[]⟩, .slice none 0 0, .int .i64 0, .int .i64 0, .int .i64 0, .int .i64 0, .int .i64 0, .int .i64 0])] := Hold.call K4 Hc
  clear H3
  clear K4 hF4 n4 s4
  clear Hc
  have b5 : B wc ge 60 ((eC s b gp gw gd tv (qn + 1) actv usd op' gl gk)) := Hold.blk H4 0 rfl
  have H5 : Hold w F wc [rB ge 60 ((eC s b gp gw gd tv (qn + 1) actv usd op' gl gk)), rR kE 115 tv tab, rMW gw (wk.map kfP), rPool 2 pl, rPl gp (logs s b + s * b) rd', rB gl 2 ([.int .i64 (-1)]), rMW gd (du.map kfP), rB g3 29 ([.int .i64 ck, .string nm, .string cd, .int .i64 cz]), rB g4 42 ([.int .i64 0, .string ⟨#[]⟩, .slice none 0 0, .int .i64 0, .int .i64 0, .int .i64 0, .int .i64 0, .int .i64 0, .int .i64 0])] := Hold.re H4 [0, 2, 3, 4, 1, 5, 6, 7, 8] (by kernel_rfl) (by rfl)
  clear H4
  obtain ⟨F6, hF6, n6, s6, K6⟩ := Hold.front (Γ := [rB ge 60 ((eC s b gp gw gd tv (qn + 1) actv usd op' gl gk)), rR kE 115 tv tab, rMW gw (wk.map kfP), rPool 2 pl]) (Δ := [rPl gp (logs s b + s * b) rd', rB gl 2 ([.int .i64 (-1)]), rMW gd (du.map kfP), rB g3 29 ([.int .i64 ck, .string nm, .string cd, .int .i64 cz]), rB g4 42 ([.int .i64 0, .string ⟨#[]⟩, .slice none 0 0, .int .i64 0, .int .i64 0, .int .i64 0, .int .i64 0, .int .i64 0, .int .i64 0])]) H5
  refine re (sq (rg (r (mv rfl) (r (mv rfl) (r (mv rfl) (r (nck rfl) (r (fa Tryz.underlying60 rfl ti56 rfl rfl) (r (fa Tryz.underlying56 rfl ti54 rfl rfl) (r (lab [.map (some gw)] Tryz.underlying54 rfl ti54 rfl b5 rfl rfl) (cl go97 (eng_only hF6 n6 lt hwk) (ac rfl (ac rfl an)) ?_))))))))))
  rintro tv' wn Hn
  have H6 : Hold w F wn [rB ge 60 ((eC s b gp gw gd tv (qn + 1) actv usd op' gl gk)), rR kE 115 tv tab, rMW gw (wk.map kfP), rPool 2 pl, rR kE 115 tv' (ownT tab (ownB wk)), rPl gp (logs s b + s * b) rd', rB gl 2 ([.int .i64 (-1)]), rMW gd (du.map kfP), rB g3 29 ([.int .i64 ck, .string nm, .string cd, .int .i64 cz]), rB g4 42 ([.int .i64 0, .string ⟨#[]⟩, .slice none 0 0, .int .i64 0, .int .i64 0, .int .i64 0, .int .i64 0, .int .i64 0, .int .i64 0])] := Hold.call K6 Hn
  clear H5
  clear K6 hF6 n6 s6
  clear Hn
  have b7 : B wn ge 60 ((eC s b gp gw gd tv (qn + 1) actv usd op' gl gk)) := Hold.blk H6 0 rfl
  obtain ⟨_, R9⟩ : ∃ F, Kd.R kE wn F tv' (ownT tab (ownB wk)) := Hold.row H6 4 rfl
  refine r (nck rfl) (r (fa Tryz.underlying60 rfl ti58 rfl rfl) (ef0 (xst (vs := [tv']) ti58 rfl rfl (cel1 (R9).oneCell) b7 rfl (Nat.le_of_ble_eq_true rfl) (ones1 (R9).oneCell)) ?_))
  rintro w8 ⟨-, b8, c8⟩
  have H7 : Hold w F w8 [rB ge 60 ((eC s b gp gw gd tv' (qn + 1) actv usd op' gl gk)), rR kE 115 tv tab, rMW gw (wk.map kfP), rPool 2 pl, rR kE 115 tv' (ownT tab (ownB wk)), rPl gp (logs s b + s * b) rd', rB gl 2 ([.int .i64 (-1)]), rMW gd (du.map kfP), rB g3 29 ([.int .i64 ck, .string nm, .string cd, .int .i64 cz]), rB g4 42 ([.int .i64 0, .string ⟨#[]⟩, .slice none 0 0, .int .i64 0, .int .i64 0, .int .i64 0, .int .i64 0, .int .i64 0, .int .i64 0])] := Hold.setB H6 0 rfl b8 c8 rfl
  clear H6
  clear b8 c8
  refine re (sq ?_)
  refine gen (fun ρ => ρ 0 = .pointer (some ⟨ge, 0, none⟩) ∧ ρ 4 = .pointer (some ⟨g4, 0, none⟩) ∧ True) ⟨rfl, rfl, trivial⟩ ?_
  rintro ρ ⟨z0, z4, -⟩
  have b10 : B w8 ge 60 ((eC s b gp gw gd tv' (qn + 1) actv usd op' gl gk)) := Hold.blk H7 0 rfl
  have b12 : MpW w8 gw (wk.map kfP) := Hold.mpw H7 2 rfl
  refine rg (r (mv z0) (r (mv z0) (r (nck rfl) (r (fa Tryz.underlying60 rfl ti56 rfl rfl) (r (fa Tryz.underlying56 rfl ti54 rfl rfl) (r (fa Tryz.underlying54 rfl ti52 rfl rfl) (r (ldb Tryz.underlying52 rfl rfl b10 rfl) (cl go32 (maps_Clone b12) (ac rfl an) ?_))))))))
  rintro _ wl ⟨gd', rfl, Hl⟩
  have H8 : Hold w F wl [rB ge 60 ((eC s b gp gw gd tv' (qn + 1) actv usd op' gl gk)), rR kE 115 tv tab, rMW gw (wk.map kfP), rPool 2 pl, rR kE 115 tv' (ownT tab (ownB wk)), rPl gp (logs s b + s * b) rd', rB gl 2 ([.int .i64 (-1)]), rMW gd (du.map kfP), rB g3 29 ([.int .i64 ck, .string nm, .string cd, .int .i64 cz]), rB g4 42 ([.int .i64 0, .string ⟨#[]⟩, .slice none 0 0, .int .i64 0, .int .i64 0, .int .i64 0, .int .i64 0, .int .i64 0, .int .i64 0]), rMW gd' (wk.map kfP)] := Hold.news H7 Hl
  clear H7
  clear Hl
  have b13 : B wl ge 60 ((eC s b gp gw gd tv' (qn + 1) actv usd op' gl gk)) := Hold.blk H8 0 rfl
  refine r (nck rfl) (r (fa Tryz.underlying60 rfl ti57 rfl rfl) (r (fa Tryz.underlying57 rfl ti54 rfl rfl) (r (fa Tryz.underlying54 rfl ti52 rfl rfl) (ef0 (xst (vs := [.map (some gd')]) ti52 rfl rfl (cel1 rfl) b13 rfl (Nat.le_of_ble_eq_true rfl) (one_all rfl)) ?_))))
  rintro w14 ⟨-, b14, c14⟩
  have H9 : Hold w F w14 [rB ge 60 ((eC s b gp gw gd' tv' (qn + 1) actv usd op' gl gk)), rR kE 115 tv tab, rMW gw (wk.map kfP), rPool 2 pl, rR kE 115 tv' (ownT tab (ownB wk)), rPl gp (logs s b + s * b) rd', rB gl 2 ([.int .i64 (-1)]), rMW gd (du.map kfP), rB g3 29 ([.int .i64 ck, .string nm, .string cd, .int .i64 cz]), rB g4 42 ([.int .i64 0, .string ⟨#[]⟩, .slice none 0 0, .int .i64 0, .int .i64 0, .int .i64 0, .int .i64 0, .int .i64 0, .int .i64 0]), rMW gd' (wk.map kfP)] := Hold.setB H8 0 rfl b14 c14 rfl
  clear H8
  clear b14 c14
  refine re (sq ?_)
  refine gen (fun ρ => ρ 4 = .pointer (some ⟨g4, 0, none⟩) ∧ True) ⟨z4, trivial⟩ ?_
  rintro ρ ⟨z4, -⟩
  have b15 : B w14 g4 42 ([.int .i64 0, .string ⟨#[]⟩, .slice none 0 0, .int .i64 0, .int .i64 0, .int .i64 0, .int .i64 0, .int .i64 0, .int .i64 0]) := Hold.blk H9 9 rfl
  refine rg (r (bd (r := [.int .i64 0, .string ⟨#[]⟩, .slice none 0 0, .int .i64 0, .int .i64 0, .int .i64 0, .int .i64 0, .int .i64 0, .int .i64 0]) ti42 pl42 pn rfl) (ef0 (xst (vs := [.int .i64 0, .string ⟨#[]⟩, .slice none 0 0, .int .i64 0, .int .i64 0, .int .i64 0, .int .i64 0, .int .i64 0, .int .i64 0]) ti42 z4 rfl rfl b15 rfl (Nat.le_of_ble_eq_true rfl) (one_all rfl)) ?_))
  rintro w16 ⟨-, b16, c16⟩
  have H10 : Hold w F w16 [rB ge 60 ((eC s b gp gw gd' tv' (qn + 1) actv usd op' gl gk)), rR kE 115 tv tab, rMW gw (wk.map kfP), rPool 2 pl, rR kE 115 tv' (ownT tab (ownB wk)), rPl gp (logs s b + s * b) rd', rB gl 2 ([.int .i64 (-1)]), rMW gd (du.map kfP), rB g3 29 ([.int .i64 ck, .string nm, .string cd, .int .i64 cz]), rB g4 42 ([.int .i64 0, .string ⟨#[]⟩, .slice none 0 0, .int .i64 0, .int .i64 0, .int .i64 0, .int .i64 0, .int .i64 0, .int .i64 0]), rMW gd' (wk.map kfP)] := Hold.setB H9 9 rfl b16 c16 rfl
  clear H9
  clear b16 c16
  refine re (rt ?_)
  have b17 : B w16 g4 42 ([.int .i64 0, .string ⟨#[]⟩, .slice none 0 0, .int .i64 0, .int .i64 0, .int .i64 0, .int .i64 0, .int .i64 0, .int .i64 0]) := Hold.blk H10 9 rfl
  have H11 : Hold w F w16 [rB ge 60 ((eC s b gp gw gd' tv' (qn + 1) actv usd op' gl gk)), rPl gp (logs s b + s * b) rd', rR kE 115 tv' (ownT tab (ownB wk)), rMW gw (wk.map kfP), rMW gd' (wk.map kfP), rPool 2 pl, rB gl 2 ([.int .i64 (-1)])] := (show Hold w F w16 ([rB ge 60 ((eC s b gp gw gd' tv' (qn + 1) actv usd op' gl gk)), rPl gp (logs s b + s * b) rd', rR kE 115 tv' (ownT tab (ownB wk)), rMW gw (wk.map kfP), rMW gd' (wk.map kfP), rPool 2 pl, rB gl 2 ([.int .i64 (-1)])] ++ [rR kE 115 tv tab, rMW gd (du.map kfP), rB g3 29 ([.int .i64 ck, .string nm, .string cd, .int .i64 cz]), rB g4 42 ([.int .i64 0, .string ⟨#[]⟩, .slice none 0 0, .int .i64 0, .int .i64 0, .int .i64 0, .int .i64 0, .int .i64 0, .int .i64 0])]) from Hold.re H10 [0, 5, 4, 2, 10, 3, 6, 1, 7, 8, 9] (by kernel_rfl) (by rfl)).drop
  clear H10
  exact finc  (cs := [.int .i64 0, .string ⟨#[]⟩, .slice none 0 0, .int .i64 0, .int .i64 0, .int .i64 0, .int .i64 0, .int .i64 0, .int .i64 0]) Tryz.results58 Tryz.underlying42 rfl ti42 z4 b17 rfl  ⟨_, _, _, _, rfl, hrd, H11⟩
end Go.Proofs.YtanfhikfeabidaaGreatDoor

namespace Go.Proofs.YtanfhikfeabidaaGreatDoor
open Go Go.Eng
set_option maxRecDepth 100000
set_option maxHeartbeats 4000000
set_option linter.unusedVariables false
set_option linter.unusedSimpArgs false
theorem filter_set {α : Type} {p : α → Bool} {t : List α} {k : Nat} (hk : k < t.length) (h0 : p t[k] = false) (x : α) : ((t.set k x).filter p).length = (t.filter p).length + (if p x = true then 1 else 0) := by
  have e : t = t.take k ++ t[k] :: t.drop (k + 1) := by rw [← List.drop_eq_getElem_cons hk, List.take_append_drop]
  have h1 : (t.filter p).length = ((t.take k).filter p).length + ((t.drop (k + 1)).filter p).length := by
    conv => lhs; rw [e]
    rw [List.filter_append, List.length_append, List.filter_cons_of_neg (by simp [h0])]
  rw [List.set_eq_take_append_cons_drop, if_pos hk, List.filter_append, List.length_append, h1, List.filter_cons]
  by_cases hx : p x = true
  · rw [if_pos hx, if_pos hx, List.length_cons]; omega
  · rw [if_neg hx, if_neg hx]; omega
theorem cnt_set {L b : Int} {j k : Nat} {t : List (Int × Bool)} (hk : k < t.length) (h0 : inSeg L b j t[k] = false) (x : Int × Bool) : cnt L b j (t.set k x) = cnt L b j t + (if inSeg L b j x = true then 1 else 0) := by
  unfold cnt
  rw [filter_set hk h0 x]
  split <;> simp
theorem usedN_set {k : Nat} {t : List (Int × Bool)} (hk : k < t.length) (h0 : t[k].1 = 0) {x : Int × Bool} (hx : ¬ x.1 = 0) : usedN (t.set k x) = usedN t + 1 := by
  unfold usedN
  rw [filter_set hk (by simp [h0]) x, if_pos (by simpa using hx)]
  simp
theorem segc_get {L b : Int} {n j : Nat} {t : List (Int × Bool)} : (segc L b n t).getD j 0 = if j < n then cnt L b j t else 0 := by
  unfold segc
  by_cases h : j < n
  · rw [if_pos h]; simp [List.getD, h]
  · rw [if_neg h]; simp [List.getD, h]
theorem frS_same {cs cs' : List Int} {a b : Int} (h : ∀ j : Nat, ¬ (j : Int) = a → cs'.getD j 0 = cs.getD j 0) : ∀ k, frS cs' a b k = frS cs a b k := by
  intro k
  induction k with
  | zero => rfl
  | succ k ih =>
    simp only [frS, ih]
    by_cases e : (k : Int) = a
    · rw [if_neg (fun q => q.1 e), if_neg (fun q => q.1 e)]
    · rw [h k e]
theorem frS_turn {cs cs' : List Int} {a a' b : Int} (hb : 0 ≤ b) (h0 : ∀ j : Nat, (j : Int) = a' → cs.getD j 0 = 0 ∧ ¬ (j : Int) = a) (h : ∀ j : Nat, ¬ (j : Int) = a' → cs'.getD j 0 = cs.getD j 0) : ∀ k : Nat, frS cs a b k ≤ frS cs' a' b k + (if 0 ≤ a' ∧ a' < (k : Int) then b else 0) := by
  intro k
  induction k with
  | zero => simp only [frS]; split <;> omega
  | succ k ih =>
    simp only [frS]
    by_cases e : (k : Int) = a'
    · have h1 := h0 k e
      rw [if_pos ⟨h1.2, h1.1⟩, if_neg (fun q => q.1 e), if_pos ⟨by omega, by omega⟩]
      rw [if_neg (by omega)] at ih
      omega
    · rw [h k e]
      have h2 : (if 0 ≤ a' ∧ a' < (k : Int) then b else 0) ≤ (if 0 ≤ a' ∧ a' < ((k + 1 : Nat) : Int) then b else 0) := by
        by_cases q : 0 ≤ a' ∧ a' < (k : Int)
        · rw [if_pos q, if_pos ⟨q.1, by omega⟩]; exact Int.le_refl _
        · rw [if_neg q]; split <;> omega
      by_cases z : cs.getD k 0 = 0
      · rw [if_pos (⟨e, z⟩ : ¬ (k : Int) = a' ∧ cs.getD k 0 = 0)]
        split <;> omega
      · rw [if_neg (fun q => z q.2), if_neg (fun q => z q.2)]; omega
theorem frS_pos {cs : List Int} {a b : Int} : ∀ k : Nat, 0 < frS cs a b k → ∃ j, j < k ∧ ¬ (j : Int) = a ∧ cs.getD j 0 = 0 := by
  intro k
  induction k with
  | zero => intro h; simp [frS] at h
  | succ k ih =>
    intro h
    simp only [frS] at h
    by_cases e : ¬ (k : Int) = a ∧ cs.getD k 0 = 0
    · exact ⟨k, by omega, e⟩
    · rw [if_neg e, Int.add_zero] at h
      obtain ⟨j, h1, h2⟩ := ih h
      exact ⟨j, by omega, h2⟩
theorem fseg_ok {xs : List Int} {a : Int} (h : ∃ j, j < xs.length ∧ ¬ (j : Int) = a ∧ xs.getD j 0 = 0) : ∃ k, k < xs.length ∧ (¬ (k : Int) = a ∧ xs.getD k 0 = 0) ∧ fseg xs a = (k : Int) := by
  unfold fseg firstI
  cases hf : (List.range xs.length).find? (isFree xs a) with
  | none =>
    obtain ⟨j, h1, h2, h3⟩ := h
    have := List.find?_eq_none.1 hf j (by simpa using h1)
    exact absurd (by simp only [isFree, h3]; simpa using h2) this
  | some k =>
    have h1 := List.find?_some hf
    have h2 := List.mem_of_find?_eq_some hf
    refine ⟨k, by simpa using h2, ?_, rfl⟩
    simp only [isFree, Bool.and_eq_true, decide_eq_true_eq] at h1
    exact ⟨h1.2, h1.1⟩
/-- The log as it must be. -/
structure Lg (s b : Int) (t : List (Int × Bool)) (a us : Int) : Prop where
  len : (t.length : Int) = s * b
  rng : ∀ x, x ∈ t → x = (0, false) ∨ (logs s b ≤ x.1 ∧ x.1 < logs s b + s * b)
  inj : ∀ (i j : Nat) (hi : i < t.length) (hj : j < t.length), i ≠ j → t[i].1 = t[j].1 → t[i].1 = 0
  act : -1 ≤ a ∧ a < s
  rus : 0 ≤ us ∧ us ≤ b
  new : 0 ≤ a → ∀ x, x ∈ t → ¬ (logs s b + a * b + us ≤ x.1 ∧ x.1 < logs s b + a * b + b)
theorem logs_pos {s b : Int} (hg : geo s b) : 2 ≤ logs s b := by
  have := geo_mul hg
  unfold logs tabs; omega
theorem inSeg_zero {s b : Int} (hg : geo s b) (j : Nat) {x : Int × Bool} (h : x.1 = 0) : inSeg (logs s b) b j x = false := by
  have h1 := logs_pos hg
  have h2 : 0 ≤ (j : Int) * b := Int.mul_nonneg (by omega) (by unfold geo at hg; omega)
  simp only [inSeg, h, decide_eq_false_iff_not]; omega
theorem inSeg_new {s b a u : Int} (hg : geo s b) (ha : 0 ≤ a) (hu : 0 ≤ u ∧ u < b) (j : Nat) (ino : Bool) : inSeg (logs s b) b j (logs s b + a * b + u, ino) = decide ((j : Int) = a) := by
  have h2 : 0 ≤ a * b := Int.mul_nonneg ha (by omega)
  refine inSeg_iff (by omega) (show logs s b ≤ logs s b + a * b + u by omega) ?_
  show (logs s b + a * b + u - logs s b) / b = a
  rw [show logs s b + a * b + u - logs s b = u + a * b by omega, Int.add_mul_ediv_right _ _ (by omega), Int.ediv_eq_zero_of_lt hu.1 hu.2, Int.zero_add]
theorem mem_set {α : Type} {t : List α} {k : Nat} {x y : α} (h : y ∈ t.set k x) : y ∈ t ∨ y = x := List.mem_or_eq_of_mem_set h
theorem Lg.step {s b : Int} {t : List (Int × Bool)} {a us : Int} (hg : geo s b) (H : Lg s b t a us) (hf : 1 ≤ freeF (segCounts t s b) a us b) {k : Nat} (hk : k < t.length) (hz : t[k].1 = 0) (ino : Bool) :
    ∃ a' u', nAct (segCounts t s b) a us b = (a', u') ∧ (0 ≤ a' ∧ a' < s) ∧ (0 ≤ u' ∧ u' < b) ∧ (∀ x, x ∈ t → x.1 ≠ logs s b + a' * b + u') ∧ Lg s b (t.set k (logs s b + a' * b + u', ino)) a' (u' + 1) ∧
      freeF (segCounts t s b) a us b - 1 ≤ freeF (segCounts (t.set k (logs s b + a' * b + u', ino)) s b) a' (u' + 1) b := by
  have hg2 := hg
  unfold geo at hg2
  have hlp := logs_pos hg
  have hsc : ∀ t, segCounts t s b = segc (logs s b) b s.toNat t := fun t => if_pos hg
  have hlen : ∀ t, (segCounts t s b).length = s.toNat := fun t => by rw [hsc, segc_len]
  have hgd : ∀ t (j : Nat), (segCounts t s b).getD j 0 = if j < s.toNat then cnt (logs s b) b j t else 0 := fun t j => by rw [hsc, segc_get]
  -- what holds of every place that is taken
  have main : ∀ a' u' : Int, (0 ≤ a' ∧ a' < s) → (0 ≤ u' ∧ u' < b) → (∀ x, x ∈ t → ¬ (logs s b + a' * b + u' ≤ x.1 ∧ x.1 < logs s b + a' * b + b)) →
      (∀ x, x ∈ t → x.1 ≠ logs s b + a' * b + u') ∧ Lg s b (t.set k (logs s b + a' * b + u', ino)) a' (u' + 1) := by
    intro a' u' ha hu hn
    have hm := mul_rng hg ha
    have hfr : ∀ x, x ∈ t → x.1 ≠ logs s b + a' * b + u' := fun x hx e => hn x hx ⟨by omega, by omega⟩
    refine ⟨hfr, ⟨by rw [List.length_set]; exact H.len, fun x hx => ?_, fun i j hi hj hij e => ?_, ⟨by omega, ha.2⟩, ⟨by omega, by omega⟩, fun _ x hx => ?_⟩⟩
    · rcases mem_set hx with hx | rfl
      · exact H.rng x hx
      · right; dsimp only; omega
    · rw [List.length_set] at hi hj
      rw [List.getElem_set, List.getElem_set] at e
      rw [List.getElem_set]
      by_cases e1 : k = i
      · rw [if_pos e1, if_neg (by omega)] at e
        exact absurd e.symm (hfr _ (List.getElem_mem hj))
      · rw [if_neg e1] at e ⊢
        by_cases e2 : k = j
        · rw [if_pos e2] at e
          exact absurd e (hfr _ (List.getElem_mem hi))
        · rw [if_neg e2] at e
          exact H.inj i j hi hj hij e
    · rcases mem_set hx with hx | rfl
      · have := hn x hx; omega
      · dsimp only; omega
  have cset : ∀ (a' u' : Int) (j : Nat), 0 ≤ a' → (0 ≤ u' ∧ u' < b) → ¬ (j : Int) = a' → (segCounts (t.set k (logs s b + a' * b + u', ino)) s b).getD j 0 = (segCounts t s b).getD j 0 := by
    intro a' u' j ha hu hj
    rw [hgd, hgd, cnt_set hk (inSeg_zero hg j hz), inSeg_new hg ha hu, decide_eq_false hj]
    simp
  by_cases hc : a < 0 ∨ us = b
  · have hF : freeF (segCounts t s b) a us b = frS (segCounts t s b) a b (segCounts t s b).length := by
      unfold freeF
      rcases hc with hc | hc
      · rw [if_neg (by omega)]; omega
      · split <;> omega
    obtain ⟨k', h1, ⟨h2, h3⟩, h4⟩ := fseg_ok (frS_pos _ (by rw [hF] at hf; exact hf))
    rw [hlen] at h1
    have ha' : 0 ≤ (k' : Int) ∧ (k' : Int) < s := ⟨by omega, by omega⟩
    have hno : ∀ x, x ∈ t → inSeg (logs s b) b k' x = false := by
      rw [hgd, if_pos h1] at h3
      have : (t.filter (inSeg (logs s b) b k')) = [] := List.eq_nil_of_length_eq_zero (by unfold cnt at h3; omega)
      intro x hx
      have := List.filter_eq_nil_iff.1 this x hx
      simpa using this
    obtain ⟨m1, m2⟩ := main k' 0 ha' ⟨by omega, by omega⟩ (fun x hx q => by
      have := hno x hx
      simp only [inSeg, decide_eq_false_iff_not] at this
      omega)
    refine ⟨k', 0, by unfold nAct; rw [if_pos hc, h4], ha', ⟨by omega, by omega⟩, m1, m2, ?_⟩
    have ht := frS_turn (cs := segCounts t s b) (cs' := segCounts (t.set k (logs s b + (k' : Int) * b + 0, ino)) s b) (a := a) (a' := (k' : Int)) (b := b) (by omega) (fun j hj => by
      have : j = k' := by omega
      subst this; exact ⟨h3, h2⟩) (fun j hj => cset k' 0 j (by omega) ⟨by omega, by omega⟩ hj) s.toNat
    rw [if_pos ⟨by omega, by omega⟩] at ht
    rw [hF]
    unfold freeF
    rw [hlen, hlen, if_pos (by omega)]
    omega
  · have h1 : 0 ≤ a ∧ a < s := ⟨by omega, H.act.2⟩
    have h2 : 0 ≤ us ∧ us < b := ⟨H.rus.1, by have := H.rus.2; omega⟩
    obtain ⟨m1, m2⟩ := main a us h1 h2 (fun x hx q => H.new h1.1 x hx q)
    refine ⟨a, us, by unfold nAct; rw [if_neg hc], h1, h2, m1, m2, ?_⟩
    unfold freeF
    rw [hlen, hlen, if_pos h1.1, if_pos h1.1, frS_same (fun j hj => cset a us j h1.1 h2 hj)]
    omega
/-- The lids that are free. -/
theorem freeN_mem {t : List (Int × Bool)} : ∀ k, k ≤ t.length → ∀ l, l ∈ freeN t k → ∃ i, ∃ h : i < t.length, i < k ∧ l = (i : Int) + 1 ∧ t[i].1 = 0 := by
  intro k
  induction k with
  | zero => intro _ l hl; cases hl
  | succ k ih =>
    intro hk l hl
    have hk' : k < t.length := by omega
    by_cases e : t[k].1 = 0
    · rw [freeN_yes hk' e] at hl
      rcases List.mem_append.1 hl with hl | hl
      · obtain ⟨i, h, h1, h2⟩ := ih (by omega) l hl; exact ⟨i, h, by omega, h2⟩
      · exact ⟨k, hk', by omega, List.mem_singleton.1 hl, e⟩
    · rw [freeN_no hk' e] at hl
      obtain ⟨i, h, h1, h2⟩ := ih (by omega) l hl; exact ⟨i, h, by omega, h2⟩
theorem freeN_nd {t : List (Int × Bool)} : ∀ k, k ≤ t.length → (freeN t k).Nodup ∧ ((freeN t k).length : Int) = k - usedN (t.take k) := by
  intro k
  induction k with
  | zero => intro _; exact ⟨by simp [freeN], by simp [freeN, usedN]⟩
  | succ k ih =>
    intro hk
    have hk' : k < t.length := by omega
    have hu := usedN_take hk'
    obtain ⟨h1, h2⟩ := ih (by omega)
    by_cases e : t[k].1 = 0
    · rw [if_neg (by simpa using e)] at hu
      rw [freeN_yes hk' e]
      refine ⟨nodup_app.2 ⟨h1, by simp, fun x hx hx2 => ?_⟩, by simp; omega⟩
      obtain ⟨i, _, h3, h4, _⟩ := freeN_mem k (by omega) x hx
      have := List.mem_singleton.1 hx2
      omega
    · rw [if_pos e] at hu
      rw [freeN_no hk' e]
      exact ⟨h1, by omega⟩
theorem flD_ok {t : List (Int × Bool)} {n : Nat} (hn : 1 ≤ n) (h : (n : Int) + usedN t ≤ t.length) : (flD t n).length = n ∧ (flD t n).Nodup ∧ ∀ l, l ∈ flD t n → ∃ i, ∃ h : i < t.length, l = (i : Int) + 1 ∧ t[i].1 = 0 := by
  obtain ⟨h1, h2⟩ := freeN_nd t.length (Nat.le_refl _)
  rw [List.take_length] at h2
  unfold flD
  rw [if_neg (by omega), if_pos (by omega)]
  refine ⟨by rw [List.length_take, Int.toNat_natCast]; omega, h1.sublist (List.take_sublist _ _), fun l hl => ?_⟩
  obtain ⟨i, h, _, h3, h4⟩ := freeN_mem t.length (Nat.le_refl _) l (List.mem_of_mem_take hl)
  exact ⟨i, h, h3, h4⟩
end Go.Proofs.YtanfhikfeabidaaGreatDoor

namespace Go.Eng
set_option linter.unusedVariables false
section
variable {P : Program} {ρ : Fr} {w : World} {d : Option Nat} {ty : TypeId} {pos : String} {af : Array Edge}
/-- 's[:h]' of a text. -/
theorem ssh {t : TypeId} {x y : Operand} {s : ByteArray} {kd : IntKind} (h : Nat) (ht : P.underlying t = some .string) (hx : ev ρ x = .string s) (hy : ev ρ y = .int kd (h : Int)) (hh : h ≤ s.size) : Rn P ρ ⟨d, .slice t x none (some y) none, ty, pos, af, none⟩ w (.string (mkS ((nums8 s).take h))) := by
  refine ⟨rfl, fun w' _ => ?_⟩
  have e : s.extract 0 h = mkS ((nums8 s).take h) := by
    apply ba_ext
    rw [mkS_data, nums8, ← List.map_take, List.map_map]
    have e2 : (s.extract 0 h).data.toList = s.data.toList.take h := by simp [ByteArray.extract, ByteArray.copySlice]
    rw [e2]
    conv => lhs; rw [← List.map_id (List.take _ _)]
    apply List.map_congr_left
    intro b _
    simp
  have h := run_slice_string_h (P := P) (w := w') (t := t) (s := s) ht kd (h : Int) (by omega) (by omega)
  rw [Int.toNat_natCast, e] at h
  simp [execOp, hx, hy, run_sliceAt_string (P := P) (h := ht), h]
theorem usdn {x : Operand} {ts : Array TypeId} {n c : Nat} (hx : ev ρ x = .slice none n c) : Rn P ρ ⟨d, .call ⟨.builtin .unsafeSliceData, #[x], ts⟩, ty, pos, af, none⟩ w (.pointer none) :=
  ⟨rfl, fun w' _ => by simp [execOp, resolve, invoke, builtin, hx, Lib.run_unsafeSliceData_nil]⟩
theorem usdr {x : Operand} {ts : Array TypeId} {n c : Nat} {a : Addr} (hx : ev ρ x = .slice (some a) n c) (hc : c ≠ 0) : Rn P ρ ⟨d, .call ⟨.builtin .unsafeSliceData, #[x], ts⟩, ty, pos, af, none⟩ w (.pointer (some a)) :=
  ⟨rfl, fun w' _ => by simp [execOp, resolve, invoke, builtin, hx, Lib.run_unsafeSliceData_row (hc := hc)]⟩
theorem usn {x y : Operand} {pt it : TypeId} {p : Option Addr} (hx : ev ρ x = .pointer p) (hy : ev ρ y = .int .i64 0) : Rn P ρ ⟨d, .call ⟨.builtin .unsafeString, #[x, y], #[pt, it]⟩, ty, pos, af, none⟩ w (.string (⟨#[]⟩ : ByteArray)) :=
  ⟨rfl, fun w' _ => by simp [execOp, resolve, invoke, builtin, hx, hy, Lib.run_unsafeString_none]; rfl⟩
theorem usr {x y : Operand} {pt it e : TypeId} {g n c : Nat} {F : List Nat} {xs : List Int} (hp : P.underlying pt = some (.pointer e)) (hc : P.cellsOf e = 1) (hW : (Kd.int .u8).W e w F (.slice (some ⟨g, 0, none⟩) n c) xs) (h0 : xs ≠ []) (h8 : ∀ v, v ∈ xs → 0 ≤ v ∧ v ≤ 255) (hl : xs.length ≤ 1000000000) (hx : ev ρ x = .pointer (some ⟨g, 0, none⟩)) (hy : ev ρ y = .int .i64 (xs.length : Int)) :
    Ex P ρ ⟨d, .call ⟨.builtin .unsafeString, #[x, y], #[pt, it]⟩, ty, pos, af, none⟩ w (fun r w' => r = .string (mkS xs) ∧ Ch [g] w w') := by
  obtain ⟨Fs, cs, ho, rfl, hE⟩ := hW
  have hcs : cs = xs.map (Value.int .u8) := els_int_inv (k := .u8) (hE.imp fun _ _ _ _ h => (Kd.int .u8).own h)
  obtain ⟨h1, h2⟩ := ho
  rcases h2 with ⟨h2, _⟩ | ⟨g', cap, cur, hv, hg, hh, hnc, hcm, hcz, htake⟩
  · cases h2
  injection hv with hv1 hv2 hv3
  injection hv1 with hv1
  injection hv1 with hv1
  subst hv1
  obtain ⟨l, hl2⟩ : ∃ l : List UInt8, l = xs.map (fun n => UInt8.ofNat n.toNat) := ⟨_, rfl⟩
  have hll : l.length = xs.length := by rw [hl2, List.length_map]
  have hcz' : cur.size = cap := by have := hcz; simp [Kd.int, Kd.one1, Kd.flat] at this; simpa using this
  have htk : cur.toList.take xs.length = xs.map (Value.int .u8) := by have := htake; simp [Kd.int, Kd.one1, Kd.flat] at this; rw [this, hcs]
  have hsh : w.shape? g = some (e, cur.size) := by simp [World.shape?, hh]
  have hle : xs.length ≤ cur.size := by
    have := congrArg List.length htk
    simp at this; omega
  have hcell : ∀ j x, l[j]? = some x → w.cell? ((⟨g, 0, none⟩ : Addr).add j) = some (.int .u8 x.toNat) := by
    intro j x hj
    have hj' : j < xs.length := by rw [← hll]; exact (List.getElem?_eq_some_iff.1 hj).1
    have h3 : cur.toList[j]? = (xs.map (Value.int .u8))[j]? := by rw [← htk, List.getElem?_take, if_pos hj']
    rw [hl2, List.getElem?_map, List.getElem?_eq_getElem hj'] at hj
    rw [List.getElem?_map, List.getElem?_eq_getElem hj'] at h3
    have h4 := h8 _ (List.getElem_mem hj')
    simp only [Option.map_some, Option.some.injEq] at hj
    rw [add_mk, Nat.zero_add]
    have h5 : cur[j]? = some (Value.int .u8 xs[j]) := by simpa using h3
    simp only [World.cell?, hh]
    rw [h5, ← hj]
    rw [show ((UInt8.ofNat xs[j].toNat).toNat : Int) = xs[j] by simp only [UInt8.toNat_ofNat']; rw [Nat.mod_eq_of_lt (by omega)]; omega]
    rfl
  have hr := Lib.run_unsafeString_row (P := P) w pt it ty e hp hc g cur.size hsh l (by intro q; apply h0; exact List.eq_nil_of_length_eq_zero (by rw [← hll, q]; rfl)) (by omega) (by omega) hcell
  refine ⟨rfl, .string (mkS xs), w.freeze ⟨g, 0, none⟩ l.length, ?_, rfl, ?_⟩
  · have e1 : (⟨l.toArray⟩ : ByteArray) = mkS xs := by apply ba_ext; rw [mkS_data, hl2]
    rw [← e1]
    rw [hll] at hr ⊢
    simp only [execOp, resolve, invoke, builtin, Sem.run_bind, Sem.run_pure, Result.andThen_ok, List.map_toArray, List.map_cons, List.map_nil, hx, hy, hr]
  · unfold World.freeze
    split
    · exact Ch.refl _ _
    · refine ⟨rfl, rfl, rfl, by simp, fun k hk hn => ?_⟩
      have hne : g ≠ k := fun q => hn (by simp [q])
      simp [Array.getElem?_modify, hne]
end
end Go.Eng
namespace Go.Proofs.YtanfhikfeabidaaGreatDoor
open Go Go.Eng
set_option maxRecDepth 100000
set_option maxHeartbeats 4000000
set_option linter.unusedVariables false
set_option linter.unusedSimpArgs false
theorem noEsc (v : Value) (w : World) : (callFunc 169 #[v]).run Tryz.prog w = .ok (.value v) w := by
  rw [run_callFunc_extern Tryz.func169 (by kernel_rfl) (by kernel_rfl) (by kernel_rfl) (e := Extern.AbiNoEscape.same) (by kernel_rfl), Lib.run_noEscape]
  rfl
theorem copyCheck_fresh {w : World} {F : List Nat} {b : Nat} {x : Value} (hx : x.oneCell' = true) (h : Hs w [rB b 203 [.pointer none, x]] F) (nd : F.Nodup) : Ret Tryz.prog 151 #[.pointer (some ⟨b, 0, none⟩)] w (fun r w' => r = .tuple #[] ∧ Hold w F w' [rB b 203 [.pointer (some ⟨b, 0, none⟩), x]]) := by
  refine enter Tryz.func151 rfl Tryz.ntmps151 (by rfl) (by rfl) ?_
  have H0 : Hold w F w [rB b 203 ([.pointer none, x])] := Hold.begin h nd
  have b1 : B w b 203 ([.pointer none, x]) := Hold.blk H0 0 rfl
  refine sq (rg (r (mv rfl) (r (nck rfl) (r (fa Tryz.underlying203 rfl ti201 rfl rfl) (r (ldb Tryz.underlying201 rfl rfl b1 rfl) (r (pel Tryz.underlying201 rfl) (re ?_)))))))
  refine ct ((rfl : _ = Value.bool ((none : Option Addr).isNone)).trans (congrArg Value.bool (show ((none : Option Addr).isNone) = true from rfl))) ?_
  refine rg (r (mv rfl) (r (mv rfl) (r (cvu Tryz.underlying201 Tryz.underlying155 ti203 b1 rfl (by decide) (Nat.zero_lt_succ _)) (r (xtn (noEsc _) rfl) (r (cvdn Tryz.underlying155 Tryz.underlying201 ti203 b1 rfl (by kernel_rfl)) (r (nck rfl) (r (fa Tryz.underlying203 rfl ti201 rfl rfl) (ef0 (xst (vs := [.pointer (some ⟨b, 0, none⟩)]) ti201 rfl rfl (cel1 rfl) b1 rfl (Nat.le_of_ble_eq_true rfl) (one_all rfl)) ?_))))))))
  rintro w2 ⟨-, b2, c2⟩
  have H1 : Hold w F w2 [rB b 203 ([.pointer (some ⟨b, 0, none⟩), x])] := Hold.setB H0 0 rfl b2 c2 rfl
  clear H0
  clear b2 c2
  refine re ?_
  exact fin0 Tryz.results151 ⟨rfl, H1⟩
theorem copyCheck_used {w : World} {F : List Nat} {b : Nat} {x : Value} (hx : x.oneCell' = true) (h : Hs w [rB b 203 [.pointer (some ⟨b, 0, none⟩), x]] F) (nd : F.Nodup) : Ret Tryz.prog 151 #[.pointer (some ⟨b, 0, none⟩)] w (fun r w' => r = .tuple #[] ∧ Hold w F w' [rB b 203 [.pointer (some ⟨b, 0, none⟩), x]]) := by
  refine enter Tryz.func151 rfl Tryz.ntmps151 (by rfl) (by rfl) ?_
  have H0 : Hold w F w [rB b 203 ([.pointer (some ⟨b, 0, none⟩), x])] := Hold.begin h nd
  have b1 : B w b 203 ([.pointer (some ⟨b, 0, none⟩), x]) := Hold.blk H0 0 rfl
  refine sq (rg (r (mv rfl) (r (nck rfl) (r (fa Tryz.underlying203 rfl ti201 rfl rfl) (r (ldb Tryz.underlying201 rfl rfl b1 rfl) (r (pel Tryz.underlying201 rfl) (re ?_)))))))
  refine cf ((rfl : _ = Value.bool ((some (⟨b, 0, none⟩ : Addr)).isNone)).trans (congrArg Value.bool (show ((some (⟨b, 0, none⟩ : Addr)).isNone) = false from rfl))) ?_
  refine sq (rg (r (mv rfl) (r (nck rfl) (r (fa Tryz.underlying203 rfl ti201 rfl rfl) (r (ldb Tryz.underlying201 rfl rfl b1 rfl) (r (mv rfl) (r (pns Tryz.underlying201 ti203 rfl rfl) (re (cf rfl (sk ?_))))))))))
  exact fin0 Tryz.results151 ⟨rfl, H0⟩
theorem Write_fresh {w : World} {F G : List Nat} {b : Nat} {v sv : Value} {xs ys : List Int} (h : Hs w [rB b 203 [.pointer none, v], rR u8 5 v xs] F) (nd : F.Nodup) (hy : u8.R w G sv ys) (hd : ∀ k, k ∈ G → k ∉ F) (lx : xs.length ≤ 1000000000) (ly : ys.length ≤ 1000000000) : Ret Tryz.prog 126 #[.pointer (some ⟨b, 0, none⟩), sv] w (fun r w' => ∃ v', r = .tuple #[.int .i64 (ys.length : Int), .nilIface] ∧ Hold w F w' [rB b 203 [.pointer (some ⟨b, 0, none⟩), v'], rR u8 5 v' (xs ++ ys)]) := by
  refine enter Tryz.func126 rfl Tryz.ntmps126 (by rfl) (by rfl) ?_
  have H0 : Hold w F w [rB b 203 ([.pointer none, v]), rR u8 5 v xs] := Hold.begin h nd
  have ho : v.oneCell' = true := (Hold.row H0 1 rfl).choose_spec.oneCell
  obtain ⟨F1, hF1, n1, s1, K1⟩ := Hold.front (Γ := [rB b 203 ([.pointer none, v])]) (Δ := [rR u8 5 v xs]) H0
  refine sq (rg (r (sa rfl) (r (sa rfl) (re (sq (rg (r (mv rfl) (cl go151 (copyCheck_fresh ho hF1 n1) (ac rfl an) ?_))))))))
  rintro r wc ⟨rfl, Hc⟩
  have H1 : Hold w F wc [rB b 203 ([.pointer (some ⟨b, 0, none⟩), v]), rR u8 5 v xs] := Hold.call K1 Hc
  clear H0
  clear K1 hF1 n1 s1
  clear Hc
  have b2 : B wc b 203 ([.pointer (some ⟨b, 0, none⟩), v]) := Hold.blk H1 0 rfl
  obtain ⟨F4, P4, n4, s4, K4⟩ := Hold.pick H1 1 rfl
  replace P4 : Kd.W u8 5 wc F4 v xs := P4
  refine re (sq (rg (r (mv rfl) (r (mv rfl) (r (nck rfl) (r (fa Tryz.underlying203 rfl ti22 rfl rfl) (r (ldb Tryz.underlying22 rfl rfl b2 rfl) (r (mv rfl) (ef (aps Tryz.underlying22 ti5 rfl (flat_int _) rfl rfl P4 ((hy.tt (Hold.ch H1) hd)) n4 (by simp; omega)) ?_)))))))))
  rintro v14_3 w3 ⟨F3, A3⟩
  have H2 : Hold w F w3 [rB b 203 ([.pointer (some ⟨b, 0, none⟩), v]), rR u8 5 v14_3 (xs ++ ys)] := Hold.apd K4 P4 A3 rfl
  clear H1
  clear A3 K4 P4 n4 s4
  have b5 : B w3 b 203 ([.pointer (some ⟨b, 0, none⟩), v]) := Hold.blk H2 0 rfl
  obtain ⟨_, R7⟩ : ∃ F, Kd.R u8 w3 F v14_3 (xs ++ ys) := Hold.row H2 1 rfl
  refine r (nck rfl) (r (fa Tryz.underlying203 rfl ti22 rfl rfl) (ef0 (xst (vs := [v14_3]) ti22 rfl rfl (cel1 (R7).oneCell) b5 rfl (Nat.le_of_ble_eq_true rfl) (ones1 (R7).oneCell)) ?_))
  rintro w6 ⟨-, b6, c6⟩
  have H3 : Hold w F w6 [rB b 203 ([.pointer (some ⟨b, 0, none⟩), v14_3]), rR u8 5 v14_3 (xs ++ ys)] := Hold.setB H2 0 rfl b6 c6 rfl
  clear H2
  clear b6 c6
  refine re (sq (rg (r (mv rfl) (r (ln Tryz.underlying22 rfl ((hy.tt (Hold.ch H3) hd))) (r (sa rfl) (r (sa rfl) (re (rt ?_))))))))
  exact fin2 (v := .int .i64 (ys.length : Int)) (v' := _) Tryz.results126 rfl rfl ⟨_, rfl, H3⟩
theorem Write_used {w : World} {F G : List Nat} {b : Nat} {v sv : Value} {xs ys : List Int} (h : Hs w [rB b 203 [.pointer (some ⟨b, 0, none⟩), v], rR u8 5 v xs] F) (nd : F.Nodup) (hy : u8.R w G sv ys) (hd : ∀ k, k ∈ G → k ∉ F) (lx : xs.length ≤ 1000000000) (ly : ys.length ≤ 1000000000) : Ret Tryz.prog 126 #[.pointer (some ⟨b, 0, none⟩), sv] w (fun r w' => ∃ v', r = .tuple #[.int .i64 (ys.length : Int), .nilIface] ∧ Hold w F w' [rB b 203 [.pointer (some ⟨b, 0, none⟩), v'], rR u8 5 v' (xs ++ ys)]) := by
  refine enter Tryz.func126 rfl Tryz.ntmps126 (by rfl) (by rfl) ?_
  have H0 : Hold w F w [rB b 203 ([.pointer (some ⟨b, 0, none⟩), v]), rR u8 5 v xs] := Hold.begin h nd
  have ho : v.oneCell' = true := (Hold.row H0 1 rfl).choose_spec.oneCell
  obtain ⟨F1, hF1, n1, s1, K1⟩ := Hold.front (Γ := [rB b 203 ([.pointer (some ⟨b, 0, none⟩), v])]) (Δ := [rR u8 5 v xs]) H0
  refine sq (rg (r (sa rfl) (r (sa rfl) (re (sq (rg (r (mv rfl) (cl go151 (copyCheck_used ho hF1 n1) (ac rfl an) ?_))))))))
  rintro r wc ⟨rfl, Hc⟩
  have H1 : Hold w F wc [rB b 203 ([.pointer (some ⟨b, 0, none⟩), v]), rR u8 5 v xs] := Hold.call K1 Hc
  clear H0
  clear K1 hF1 n1 s1
  clear Hc
  have b2 : B wc b 203 ([.pointer (some ⟨b, 0, none⟩), v]) := Hold.blk H1 0 rfl
  obtain ⟨F4, P4, n4, s4, K4⟩ := Hold.pick H1 1 rfl
  replace P4 : Kd.W u8 5 wc F4 v xs := P4
  refine re (sq (rg (r (mv rfl) (r (mv rfl) (r (nck rfl) (r (fa Tryz.underlying203 rfl ti22 rfl rfl) (r (ldb Tryz.underlying22 rfl rfl b2 rfl) (r (mv rfl) (ef (aps Tryz.underlying22 ti5 rfl (flat_int _) rfl rfl P4 ((hy.tt (Hold.ch H1) hd)) n4 (by simp; omega)) ?_)))))))))
  rintro v14_3 w3 ⟨F3, A3⟩
  have H2 : Hold w F w3 [rB b 203 ([.pointer (some ⟨b, 0, none⟩), v]), rR u8 5 v14_3 (xs ++ ys)] := Hold.apd K4 P4 A3 rfl
  clear H1
  clear A3 K4 P4 n4 s4
  have b5 : B w3 b 203 ([.pointer (some ⟨b, 0, none⟩), v]) := Hold.blk H2 0 rfl
  obtain ⟨_, R7⟩ : ∃ F, Kd.R u8 w3 F v14_3 (xs ++ ys) := Hold.row H2 1 rfl
  refine r (nck rfl) (r (fa Tryz.underlying203 rfl ti22 rfl rfl) (ef0 (xst (vs := [v14_3]) ti22 rfl rfl (cel1 (R7).oneCell) b5 rfl (Nat.le_of_ble_eq_true rfl) (ones1 (R7).oneCell)) ?_))
  rintro w6 ⟨-, b6, c6⟩
  have H3 : Hold w F w6 [rB b 203 ([.pointer (some ⟨b, 0, none⟩), v14_3]), rR u8 5 v14_3 (xs ++ ys)] := Hold.setB H2 0 rfl b6 c6 rfl
  clear H2
  clear b6 c6
  refine re (sq (rg (r (mv rfl) (r (ln Tryz.underlying22 rfl ((hy.tt (Hold.ch H3) hd))) (r (sa rfl) (r (sa rfl) (re (rt ?_))))))))
  exact fin2 (v := .int .i64 (ys.length : Int)) (v' := _) Tryz.results126 rfl rfl ⟨_, rfl, H3⟩
theorem Builder_Write {w : World} {F G : List Nat} {b : Nat} {v sv p : Value} {xs ys : List Int} (hp : p = .pointer none ∨ p = .pointer (some ⟨b, 0, none⟩)) (h : Hs w [rB b 203 [p, v], rR u8 5 v xs] F) (nd : F.Nodup) (hy : u8.R w G sv ys) (hd : ∀ k, k ∈ G → k ∉ F) (lx : xs.length ≤ 1000000000) (ly : ys.length ≤ 1000000000) : Ret Tryz.prog 126 #[.pointer (some ⟨b, 0, none⟩), sv] w (fun r w' => ∃ v', r = .tuple #[.int .i64 (ys.length : Int), .nilIface] ∧ Hold w F w' [rB b 203 [.pointer (some ⟨b, 0, none⟩), v'], rR u8 5 v' (xs ++ ys)]) := by
  rcases hp with rfl | rfl
  · exact Write_fresh h nd hy hd lx ly
  · exact Write_used h nd hy hd lx ly
def catR (rdf : Int → List Int) (t : List (Int × Bool)) (ls : List Int) : List Int := ls.flatMap (fun l => rdf (t.getD (l - 1).toNat (0, false)).1)
theorem catR_take {rdf : Int → List Int} {t : List (Int × Bool)} {ls : List Int} {j : Nat} (h : j < ls.length) : catR rdf t (ls.take (j + 1)) = catR rdf t (ls.take j) ++ rdf (t.getD (ls[j] - 1).toNat (0, false)).1 := by
  unfold catR
  rw [List.take_succ_eq_append_getElem h, List.flatMap_append]; simp
theorem catR_len {rdf : Int → List Int} {t : List (Int × Bool)} {ls : List Int} (h : ∀ l, l ∈ ls → (rdf (t.getD (l - 1).toNat (0, false)).1).length = 64) : (catR rdf t ls).length = 64 * ls.length := by
  induction ls with
  | nil => rfl
  | cons l ls ih =>
    simp only [catR, List.flatMap_cons, List.length_append, List.length_cons] at ih ⊢
    rw [h l (by simp), ih (fun l hl => h l (by simp [hl]))]; omega
theorem Builder_String0 {w : World} {b : Nat} {pv : Value} (hB : B w b 203 [pv, .slice none 0 0]) : Ret Tryz.prog 127 #[.pointer (some ⟨b, 0, none⟩)] w (fun r w' => r = .string (⟨#[]⟩ : ByteArray) ∧ Ch [] w w') := by
  refine enter Tryz.func127 rfl Tryz.ntmps127 (by rfl) (by rfl) ?_
  have H0 : Hold w [] w [] := Hold.start w
  refine sq (rg (r (sa rfl) (re (sq (rd mixed (by kernel_rfl) (q (mv rfl) (q (nck rfl) (q (fa Tryz.underlying203 rfl ti22 rfl rfl) (q (ldb Tryz.underlying22 rfl rfl ((Hold.ch H0).b0 hB) rfl) (q (usdn rfl) (q (mv rfl) (q (nck rfl) (q (fa Tryz.underlying203 rfl ti22 rfl rfl) (q (ldb Tryz.underlying22 rfl rfl ((Hold.ch H0).b0 hB) rfl) (q (lnl Tryz.underlying22 rfl) (q (usn rfl rfl) (q (sa rfl) (me ?_))))))))))))))))))
  intro w1 c1
  have H1 : Hold w [] w1 [] := Hold.t H0 c1
  clear H0
  refine rt ?_
  exact fin1 (v := .string (⟨#[]⟩ : ByteArray)) Tryz.results127 rfl ⟨rfl, Hold.ch H1⟩
theorem Builder_String {w : World} {F : List Nat} {b g n c : Nat} {pv : Value} {xs : List Int} (h : Hs w [rB b 203 [pv, .slice (some ⟨g, 0, none⟩) n c], rR u8 5 (.slice (some ⟨g, 0, none⟩) n c) xs] F) (nd : F.Nodup) (hc : c ≠ 0) (h0 : xs ≠ []) (ok : ok8 xs) (lx : xs.length ≤ 1000000000) : Ret Tryz.prog 127 #[.pointer (some ⟨b, 0, none⟩)] w (fun r w' => r = .string (mkS xs) ∧ Hold w F w' []) := by
  refine enter Tryz.func127 rfl Tryz.ntmps127 (by rfl) (by rfl) ?_
  have H0 : Hold w F w [rB b 203 ([pv, .slice (some ⟨g, 0, none⟩) n c]), rR u8 5 (.slice (some ⟨g, 0, none⟩) n c) xs] := Hold.begin h nd
  refine sq (rg (r (sa rfl) (re (sq ?_))))
  refine rde mixed ?_
  intro w1 c1
  have H1 : Hold w F w1 [rB b 203 ([pv, .slice (some ⟨g, 0, none⟩) n c]), rR u8 5 (.slice (some ⟨g, 0, none⟩) n c) xs] := Hold.t H0 c1
  clear H0
  clear c1
  have H2 : Hold w F w1 [rR u8 5 (.slice (some ⟨g, 0, none⟩) n c) xs, rB b 203 ([pv, .slice (some ⟨g, 0, none⟩) n c])] := Hold.re H1 [1, 0] (by kernel_rfl) (by rfl)
  clear H1
  obtain ⟨Fd2, hFd2, nd2, Kd2, Xd2, sd2⟩ := Hold.frontx (Γ := [rR u8 5 (.slice (some ⟨g, 0, none⟩) n c) xs]) (Δ := [rB b 203 ([pv, .slice (some ⟨g, 0, none⟩) n c])]) H2
  have H2d0 : Hold w1 Fd2 w1 [rR u8 5 (.slice (some ⟨g, 0, none⟩) n c) xs] := Hold.begin hFd2 nd2
  refine ⟨fun w' => Ch Fd2 w1 w', Ch.refl _ _, ?_⟩
  obtain ⟨_, ⟨rfl, b3⟩, x3⟩ := Xd2 0 (rB b 203 ([pv, .slice (some ⟨g, 0, none⟩) n c])) rfl
  obtain ⟨_, R4⟩ : ∃ F, Kd.R u8 w1 F (.slice (some ⟨g, 0, none⟩) n c) xs := Hold.row H2d0 0 rfl
  refine edt 0 rfl (by kernel_rfl) (fun w' hS => mv rfl) (edt 1 rfl (by kernel_rfl) (fun w' hS => nck rfl) (edt 2 rfl (by kernel_rfl) (fun w' hS => fa Tryz.underlying203 rfl ti22 rfl rfl) (edt 3 rfl (by kernel_rfl) (fun w' hS => ldb Tryz.underlying22 rfl rfl (hS.b b3 (x3 _ (by simp))) rfl) (edt 4 rfl (by kernel_rfl) (fun w' hS => usdr rfl hc) (edt 5 rfl (by kernel_rfl) (fun w' hS => mv rfl) (edt 6 rfl (by kernel_rfl) (fun w' hS => nck rfl) (edt 7 rfl (by kernel_rfl) (fun w' hS => fa Tryz.underlying203 rfl ti22 rfl rfl) (edt 8 rfl (by kernel_rfl) (fun w' hS => ldb Tryz.underlying22 rfl rfl (hS.b b3 (x3 _ (by simp))) rfl) (ed1 9 (by kernel_rfl) <| eur rfl (ln Tryz.underlying22 rfl (R4)) (.inr (Hold.ch H2d0)) ?_)))))))))
  obtain ⟨F5, P5, n5, s5, K5⟩ := Hold.pick H2d0 0 rfl
  replace P5 : Kd.W u8 5 w1 F5 (.slice (some ⟨g, 0, none⟩) n c) xs := P5
  refine ed1 10 (by kernel_rfl) <| euf rfl (usr Tryz.underlying238 (by kernel_rfl) P5 h0 ok lx rfl rfl) ?_
  rintro _ w6 ⟨rfl, c6⟩
  have H3d : Hold w1 Fd2 w6 [rL []] := K5 w6 (rL []) [] _ rfl (Turn.own (by simp) (fun k hk => by cases hk) (c6.mono (fun k hk _ => W_own P5 k (by simpa [Value.ownBlock] using hk)))) rfl
  clear H2d0
  refine ⟨.inr (Hold.ch H3d), ?_⟩
  have H4 : Hold w F w6 [rL [], rB b 203 ([pv, .slice (some ⟨g, 0, none⟩) n c])] := Hold.call Kd2 H3d
  clear H3d H2
  refine ed1 11 (by kernel_rfl) <| eur rfl (sa rfl) (.inl (by kernel_rfl)) ?_
  refine edd (by kernel_rfl) ?_
  refine rt ?_
  have H5 : Hold w F w6 [] := (show Hold w F w6 ([] ++ [rL [], rB b 203 ([pv, .slice (some ⟨g, 0, none⟩) n c])]) from Hold.re H4 [0, 1] (by kernel_rfl) (by rfl)).drop
  clear H4
  exact fin1 (v := .string (mkS xs)) Tryz.results127 rfl ⟨rfl, H5⟩
end Go.Proofs.YtanfhikfeabidaaGreatDoor

namespace Go.Proofs.YtanfhikfeabidaaGreatDoor
open Go Go.Eng
set_option maxRecDepth 100000
set_option maxHeartbeats 4000000
set_option linter.unusedVariables false
set_option linter.unusedSimpArgs false
theorem W_adr0 {w : World} {F : List Nat} {e : TypeId} {v : Value} {xs : List Int} (hW : u8.W e w F v xs) (h0 : xs ≠ []) : ∃ g c, v = .slice (some ⟨g, 0, none⟩) xs.length c ∧ c ≠ 0 := by
  obtain ⟨Fs, cs, ho, rfl, hE⟩ := hW
  obtain ⟨h1, h2⟩ := ho
  rcases h2 with ⟨h2, h3⟩ | ⟨g, cap, cur, rfl, hg, hh, hnc, _⟩
  · exact absurd (List.eq_nil_of_length_eq_zero h3) h0
  · refine ⟨g, cap, rfl, fun e => h0 (List.eq_nil_of_length_eq_zero (by omega))⟩
/-- What a file's lids must be. -/
def LsOk (s b : Int) (rdf : Int → List Int) (t : List (Int × Bool)) (ls : List Int) : Prop := ∀ l, l ∈ ls → ∃ m : Nat, ∃ h : m < t.length, l = (m : Int) + 1 ∧ 0 ≤ t[m].1 ∧ t[m].1 < logs s b + s * b ∧ ok8 (rdf t[m].1)
theorem LsOk.ok {s b : Int} {rdf : Int → List Int} {t : List (Int × Bool)} {ls : List Int} (h : LsOk s b rdf t ls) : ok8 (catR rdf t ls) := by
  intro x hx
  obtain ⟨l, hl, hx⟩ := List.mem_flatMap.1 hx
  obtain ⟨m, hm, rfl, _, _, h8⟩ := h l hl
  rw [show ((m : Int) + 1 - 1).toNat = m by omega, List.getD_eq_getElem?_getD, List.getElem?_eq_getElem hm] at hx
  exact h8 x hx
theorem eng_dataOf {w : World} {F : List Nat} {gp : Nat} {tv lv : Value} {s b sz : Int} {nm : ByteArray} {rdf : Int → List Int} {tab : List (Int × Bool)} {ls : List Int} {pl : List (Value × List Int)} (h : Hs w [rPl gp (logs s b + s * b) rdf, rR kE 115 tv tab, rPool 2 pl] F) (nd : F.Nodup) (lt : tab.length ≤ 2000) (hml : (lv, ls) ∈ pl) (hnl : ls.length ≤ 100)
    (hls : LsOk s b rdf tab ls) (hsz : 0 ≤ sz ∧ sz ≤ 64 * (ls.length : Int)) : Ret Tryz.prog 92 #[.pointer (some ⟨gp, 0, none⟩), .agg #[.string nm, .int .i64 sz, lv], tv] w (fun r w' => r = .string (mkS ((catR rdf tab ls).take sz.toNat)) ∧ Hold w F w' [rPl gp (logs s b + s * b) rdf, rR kE 115 tv tab, rPool 2 pl]) := by
  refine enter Tryz.func92 rfl Tryz.ntmps92 (by rfl) (by rfl) ?_
  have H0 : Hold w F w [rPl gp (logs s b + s * b) rdf, rR kE 115 tv tab, rPool 2 pl] := Hold.begin h nd
  obtain ⟨dv, wv, mg, xs, ps, hDk, H1⟩ := Hold.plE H0
  replace H1 : Hold w F w [rB gp 98 ([dv, wv, .map (some mg)]), rR u8 5 dv xs, rR kW 100 wv ps, rM mg (yng ps), rR kE 115 tv tab, rPool 2 pl] := H1
  clear H0
  refine sq (rg (ef (xbx (t := 89) rfl rfl) ?_))
  rintro _ w1 ⟨g4, e1, rfl, -, b1, c1⟩
  have H2 : Hold w F w1 [rB gp 98 ([dv, wv, .map (some mg)]), rR u8 5 dv xs, rR kW 100 wv ps, rM mg (yng ps), rR kE 115 tv tab, rPool 2 pl, rB g4 89 ([.string nm, .int .i64 sz, lv])] := Hold.newB H1 e1 b1 c1
  clear H1
  clear e1 b1 c1
  refine r (sa rfl) (re (sq (rg (ef (xal ti203) ?_))))
  rintro _ w2 ⟨g7, e2, rfl, -, b2, c2⟩
  have H3 : Hold w F w2 [rB gp 98 ([dv, wv, .map (some mg)]), rR u8 5 dv xs, rR kW 100 wv ps, rM mg (yng ps), rR kE 115 tv tab, rPool 2 pl, rB g4 89 ([.string nm, .int .i64 sz, lv]), rB g7 203 ([.pointer none, .slice none 0 0])] := Hold.newB H2 e2 b2 c2
  clear H2
  clear e2 b2 c2
  have b3 : B w2 g4 89 ([.string nm, .int .i64 sz, lv]) := Hold.blk H3 6 rfl
  obtain ⟨_, T4⟩ := Hold.kept H3 5 rfl hml
  refine re (sq (sq (rg (r (fa Tryz.underlying89 rfl ti86 rfl rfl) (r (ldb Tryz.underlying86 rfl rfl b3 rfl) (r (ln Tryz.underlying86 rfl (T4)) (r (mv rfl) (re (bl ?_)))))))))
  have H4 : Hold w F w2 [rB gp 98 ([dv, wv, .map (some mg)]), rR u8 5 dv xs, rR kW 100 wv ps, rM mg (yng ps), rR kE 115 tv tab, rPool 2 pl, rB g4 89 ([.string nm, .int .i64 sz, lv]), rB g7 203 ([.pointer none, .slice none 0 0]), rR u8 5 (.slice none 0 0) ([])] := Hold.nilrow u8 5 H3
  clear H3
  refine lp (α := Nat × Value × Value) (fun (j, pv, bv) ρ w' => ρ 0 = .pointer (some ⟨gp, 0, none⟩) ∧ ρ 2 = tv ∧ ρ 4 = .pointer (some ⟨g4, 0, none⟩) ∧ ρ 7 = .pointer (some ⟨g7, 0, none⟩) ∧ ρ 12 = lv ∧ ρ 13 = .int .i64 (ls.length : Int) ∧ ρ 14 = .int .i64 (j : Int) ∧ Hold w F w' [rB gp 98 ([dv, wv, .map (some mg)]), rR u8 5 dv xs, rR kW 100 wv ps, rM mg (yng ps), rR kE 115 tv tab, rPool 2 pl, rB g4 89 ([.string nm, .int .i64 sz, lv]), rB g7 203 ([pv, bv]), rR u8 5 bv (catR rdf tab (ls.take j))] ∧ (pv = .pointer none ∨ pv = .pointer (some ⟨g7, 0, none⟩)) ∧ (j = 0 → bv = .slice none 0 0) ∧ j ≤ ls.length) (fun (j, pv, bv) => ls.length - j) (0, .pointer none, .slice none 0 0) ?_ ?_
  · exact ⟨rfl, rfl, rfl, rfl, rfl, rfl, rfl, H4, ⟨.inl rfl, fun _ => rfl, by omega⟩⟩
  clear H4
  rintro ⟨j, pv, bv⟩ ρ w505 ⟨y0, y2, y4, y7, y12, y13, y14, H5, ⟨hp, hbv, hj⟩⟩
  refine sq (rg (r (bi y14 y13 rfl) (re (sq ?_))))
  refine cp rfl (fun hlt => ?_) (fun hlt => ?_)
  · have hj' : j < ls.length := by omega
    obtain ⟨m, hm, hlm, ha0, ha1, ha8⟩ := hls _ (List.getElem_mem hj')
    have hcl := catR_len (rdf := rdf) (t := tab) (ls := ls.take j) (fun l hl => by
      obtain ⟨m2, hm2, e2, h2, h3, _⟩ := hls l (List.mem_of_mem_take hl)
      rw [e2, show ((m2 : Int) + 1 - 1).toNat = m2 by omega, List.getD_eq_getElem?_getD, List.getElem?_eq_getElem hm2]
      exact hDk.len _ ⟨h2, h3⟩)
    rw [List.length_take] at hcl
    have hct := catR_take (rdf := rdf) (t := tab) hj'
    rw [hlm, show ((m : Int) + 1 - 1).toNat = m by omega, List.getD_eq_getElem?_getD, List.getElem?_eq_getElem hm] at hct
    simp only [Option.getD_some] at hct
    obtain ⟨ad9, had⟩ : ∃ a, a = tab[m].1 := ⟨_, rfl⟩
    rw [← had] at ha0 ha1 ha8 hct
    have hlen9 := hDk.len ad9 ⟨ha0, ha1⟩
    have hat9 := hDk.V.at (b := ad9) ⟨ha0, by rw [hDk.nb]; exact ha1⟩
    have hlx9 := hDk.V.len2
    obtain ⟨_, T5⟩ := Hold.kept H5 5 rfl hml
    refine sk (sq (bl (sq (rg ?_))))
    obtain ⟨c16_6, ad16_6, k16_6, e16_6, p16_6⟩ := Kd.R.place T5 j (by omega)
    obtain ⟨_, R7⟩ : ∃ F, Kd.R kE w505 F tv tab := Hold.row H5 4 rfl
    refine r (ix (j := j) Tryz.underlying86 ti2 (y12.trans e16_6) y14 (by omega)) (r (Rn.cast (v' := .int .i64 ((m : Int) + 1)) (ld Tryz.underlying2 rfl rfl p16_6.cell) (congrArg (Value.int .i64) hlm)) (r (sa rfl) (re (sq (rg (r (mv y0) (r (mv y2) (r (mv rfl) (r (sb (a := (m : Int) + 1) (b := 1) ((m : Int)) rfl rfl (by omega)) ?_)))))))))
    obtain ⟨c22_8, ad22_8, k22_8, e22_8, p22_8⟩ := Kd.R.place R7 m (hm)
    have q22_8 := en_at p22_8
    have b10 : B w505 gp 98 ([dv, wv, .map (some mg)]) := Hold.blk H5 0 rfl
    have b11 : MpI w505 mg (yng ps) := Hold.mp H5 3 rfl
    obtain ⟨_, R12⟩ : ∃ F, Kd.R u8 w505 F dv xs := Hold.row H5 1 rfl
    obtain ⟨_, R13⟩ : ∃ F, Kd.R kW w505 F wv ps := Hold.row H5 2 rfl
    refine r (ix (j := m) Tryz.underlying58 ti115 e22_8 rfl (hm)) (r (fa' Tryz.underlying115 rfl ti2 rfl rfl) (r (Rn.cast (v' := .int .i64 ad9) (ld Tryz.underlying2 rfl rfl (q22_8 0 _ rfl)) (congrArg (Value.int .i64) had.symm)) (cl go39 (platter_read (b := ad9) b10 b11 R12 R13 (by omega) ⟨ha0, by omega⟩ (fun x hx => (hDk.V.ok x hx).2.2)) (ac rfl (ac rfl an)) ?_)))
    rintro r wr ⟨er, cr⟩
    rw [hDk.rd ad9 ha0] at er
    subst er
    have H6 : Hold w F wr [rB gp 98 ([dv, wv, .map (some mg)]), rR u8 5 dv xs, rR kW 100 wv ps, rM mg (yng ps), rR kE 115 tv tab, rPool 2 pl, rB g4 89 ([.string nm, .int .i64 sz, lv]), rB g7 203 ([pv, bv]), rR u8 5 bv (catR rdf tab (ls.take j))] := Hold.t H5 cr
    clear H5
    clear cr
    refine ef (xal ti71) ?_
    rintro _ w14 ⟨g10, e14, rfl, -, b14, c14⟩
    have H7 : Hold w F w14 [rB gp 98 ([dv, wv, .map (some mg)]), rR u8 5 dv xs, rR kW 100 wv ps, rM mg (yng ps), rR kE 115 tv tab, rPool 2 pl, rB g4 89 ([.string nm, .int .i64 sz, lv]), rB g7 203 ([pv, bv]), rR u8 5 bv (catR rdf tab (ls.take j)), rB g10 71 (byts (List.replicate 64 0))] := Hold.newB H6 e14 b14 c14
    clear H6
    clear e14 b14 c14
    have b15 : B w14 g10 71 (byts (List.replicate 64 0)) := Hold.blk H7 9 rfl
    refine ef0 (xsta ti71 rfl rfl hlen9 b15 (by simp)) ?_
    rintro w16 ⟨-, b16, c16⟩
    have H8 : Hold w F w16 [rB gp 98 ([dv, wv, .map (some mg)]), rR u8 5 dv xs, rR kW 100 wv ps, rM mg (yng ps), rR kE 115 tv tab, rPool 2 pl, rB g4 89 ([.string nm, .int .i64 sz, lv]), rB g7 203 ([pv, bv]), rR u8 5 bv (catR rdf tab (ls.take j)), rB g10 71 (byts (rdf ad9))] := Hold.setB H7 9 rfl b16 c16 rfl
    clear H7
    clear b16 c16
    refine re ?_
    refine gen (fun ρ => ρ 0 = .pointer (some ⟨gp, 0, none⟩) ∧ ρ 2 = tv ∧ ρ 4 = .pointer (some ⟨g4, 0, none⟩) ∧ ρ 7 = .pointer (some ⟨g7, 0, none⟩) ∧ ρ 10 = .pointer (some ⟨g10, 0, none⟩) ∧ ρ 12 = lv ∧ ρ 13 = .int .i64 (ls.length : Int) ∧ ρ 14 = .int .i64 (j : Int) ∧ True) ⟨y0, y2, y4, y7, rfl, y12, y13, y14, trivial⟩ ?_
    rintro ρ ⟨z0, z2, z4, z7, z10, z12, z13, z14, -⟩
    have H9 : Hold w F w16 [rB g7 203 ([pv, bv]), rR u8 5 bv (catR rdf tab (ls.take j)), rB gp 98 ([dv, wv, .map (some mg)]), rR u8 5 dv xs, rR kW 100 wv ps, rM mg (yng ps), rR kE 115 tv tab, rPool 2 pl, rB g4 89 ([.string nm, .int .i64 sz, lv]), rB g10 71 (byts (rdf ad9))] := Hold.re H8 [7, 8, 0, 1, 2, 3, 4, 5, 6, 9] (by kernel_rfl) (by rfl)
    clear H8
    obtain ⟨F17, hF17, n17, K17, X17, s17⟩ := Hold.frontx (Γ := [rB g7 203 ([pv, bv]), rR u8 5 bv (catR rdf tab (ls.take j))]) (Δ := [rB gp 98 ([dv, wv, .map (some mg)]), rR u8 5 dv xs, rR kW 100 wv ps, rM mg (yng ps), rR kE 115 tv tab, rPool 2 pl, rB g4 89 ([.string nm, .int .i64 sz, lv]), rB g10 71 (byts (rdf ad9))]) H9
    obtain ⟨_, ⟨rfl, bq⟩, xq⟩ := X17 7 (rB g10 71 (byts (rdf ad9))) rfl
    refine rg (r (sla Tryz.underlying71 ti5 z10) (cl go126 (Builder_Write hp hF17 n17 (Kd.W.R (row_of_arr (xs := rdf ad9) bq hlen9 (Nat.le_of_ble_eq_true rfl))) xq (by omega) (by omega)) (ac z7 (ac rfl an)) ?_))
    rintro r wb ⟨v', rfl, Hb⟩
    have H10 : Hold w F wb [rB g7 203 ([.pointer (some ⟨g7, 0, none⟩), v']), rR u8 5 v' ((catR rdf tab (ls.take j)) ++ (rdf ad9)), rB gp 98 ([dv, wv, .map (some mg)]), rR u8 5 dv xs, rR kW 100 wv ps, rM mg (yng ps), rR kE 115 tv tab, rPool 2 pl, rB g4 89 ([.string nm, .int .i64 sz, lv]), rB g10 71 (byts (rdf ad9))] := Hold.call K17 Hb
    clear H9
    clear K17 hF17 n17 s17
    clear Hb
    refine re (be (rg (r (ad (a := (j : Int)) (b := 1) ((j : Int) + 1) z14 rfl (by omega)) (r (mv rfl) (re ?_)))))
    have H11 : Hold w F wb [rB gp 98 ([dv, wv, .map (some mg)]), rR u8 5 dv xs, rR kW 100 wv ps, rM mg (yng ps), rR kE 115 tv tab, rPool 2 pl, rB g4 89 ([.string nm, .int .i64 sz, lv]), rB g7 203 ([.pointer (some ⟨g7, 0, none⟩), v']), rR u8 5 v' ((catR rdf tab (ls.take j)) ++ (rdf ad9))] := (show Hold w F wb ([rB gp 98 ([dv, wv, .map (some mg)]), rR u8 5 dv xs, rR kW 100 wv ps, rM mg (yng ps), rR kE 115 tv tab, rPool 2 pl, rB g4 89 ([.string nm, .int .i64 sz, lv]), rB g7 203 ([.pointer (some ⟨g7, 0, none⟩), v']), rR u8 5 v' ((catR rdf tab (ls.take j)) ++ (rdf ad9))] ++ [rB g10 71 (byts (rdf ad9))]) from Hold.re H10 [2, 3, 4, 5, 6, 7, 8, 0, 1, 9] (by kernel_rfl) (by rfl)).drop
    clear H10
    exact ag (j + 1, .pointer (some ⟨g7, 0, none⟩), v') ⟨z0, z2, z4, z7, z12, z13, rfl, (by rw [hct]; exact H11), ⟨.inr rfl, fun h => absurd h (by omega), by omega⟩⟩ (by first | omega | (dsimp only; omega))
  · have ej : j = ls.length := by omega
    have hcl := catR_len (rdf := rdf) (t := tab) (ls := ls) (fun l hl => by
      obtain ⟨m2, hm2, e2, h2, h3, _⟩ := hls l hl
      rw [e2, show ((m2 : Int) + 1 - 1).toNat = m2 by omega, List.getD_eq_getElem?_getD, List.getElem?_eq_getElem hm2]
      exact hDk.len _ ⟨h2, h3⟩)
    have h8 := hls.ok
    have H6 : Hold w F w505 [rB gp 98 ([dv, wv, .map (some mg)]), rR u8 5 dv xs, rR kW 100 wv ps, rM mg (yng ps), rR kE 115 tv tab, rPool 2 pl, rB g4 89 ([.string nm, .int .i64 sz, lv]), rB g7 203 ([pv, bv]), rR u8 5 bv (catR rdf tab ls)] := (by rw [ej, List.take_length] at H5; exact H5)
    clear H5
    by_cases h0 : ls.length = 0
    · obtain rfl := hbv (by omega)
      have hX : catR rdf tab ls = [] := List.eq_nil_of_length_eq_zero (by omega)
      refine ex rfl (sq ?_)
      refine rde mixed ?_
      intro w5 c5
      have H7 : Hold w F w5 [rB gp 98 ([dv, wv, .map (some mg)]), rR u8 5 dv xs, rR kW 100 wv ps, rM mg (yng ps), rR kE 115 tv tab, rPool 2 pl, rB g4 89 ([.string nm, .int .i64 sz, lv]), rB g7 203 ([pv, .slice none 0 0]), rR u8 5 (.slice none 0 0) (catR rdf tab ls)] := Hold.t H6 c5
      clear H6
      clear c5
      have H6d0 : Hold w5 [] w5 [] := Hold.start w5
      refine ⟨fun w' => Ch [] w5 w', Ch.refl _ _, ?_⟩
      have b7 : B w5 g4 89 ([.string nm, .int .i64 sz, lv]) := Hold.blk H7 6 rfl
      have b9 : B w5 g7 203 ([pv, .slice none 0 0]) := Hold.blk H7 7 rfl
      refine edt 1 rfl (by kernel_rfl) (fun w' hS => fa Tryz.underlying89 rfl ti2 rfl y4) (edt 2 rfl (by kernel_rfl) (fun w' hS => Rn.cast (v' := .int .i64 ((sz.toNat : Nat) : Int)) (ldb Tryz.underlying2 rfl rfl (hS.b0 b7) rfl) (congrArg (Value.int .i64) (by omega))) (ed1 0 (by kernel_rfl) <| euc rfl go127 (ac y7 an) (Builder_String0 ((Hold.ch H6d0).b0 b9)) ?_))
      rintro r wS ⟨rfl, cS⟩
      have H8d : Hold w5 [] wS [] := Hold.t H6d0 cS
      clear H6d0
      clear cS
      refine ⟨.inr (Hold.ch H8d), ?_⟩
      refine edt 3 rfl (by kernel_rfl) (fun w' hS => ssh sz.toNat Tryz.underlying9 rfl rfl (by show _ ≤ 0; omega)) ?_
      have H9 : Hold w F wS [rB gp 98 ([dv, wv, .map (some mg)]), rR u8 5 dv xs, rR kW 100 wv ps, rM mg (yng ps), rR kE 115 tv tab, rPool 2 pl, rB g4 89 ([.string nm, .int .i64 sz, lv]), rB g7 203 ([pv, .slice none 0 0]), rR u8 5 (.slice none 0 0) (catR rdf tab ls)] := Hold.news H7 H8d
      clear H8d H7
      refine ed1 4 (by kernel_rfl) <| eur rfl (sa rfl) (.inl (by kernel_rfl)) ?_
      refine edd (by kernel_rfl) ?_
      refine rt ?_
      have H10 : Hold w F wS [rPl gp (logs s b + s * b) rdf, rR kE 115 tv tab, rPool 2 pl, rB g4 89 ([.string nm, .int .i64 sz, lv]), rB g7 203 ([pv, .slice none 0 0]), rR u8 5 (.slice none 0 0) (catR rdf tab ls)] := Hold.plI hDk H9
      clear H9
      have H11 : Hold w F wS [rPl gp (logs s b + s * b) rdf, rR kE 115 tv tab, rPool 2 pl] := (show Hold w F wS ([rPl gp (logs s b + s * b) rdf, rR kE 115 tv tab, rPool 2 pl] ++ [rB g4 89 ([.string nm, .int .i64 sz, lv]), rB g7 203 ([pv, .slice none 0 0]), rR u8 5 (.slice none 0 0) (catR rdf tab ls)]) from Hold.re H10 [0, 1, 2, 3, 4, 5] (by kernel_rfl) (by rfl)).drop
      clear H10
      exact fin1 (v := .string (mkS ((nums8 (⟨#[]⟩ : ByteArray)).take sz.toNat))) Tryz.results92 rfl ⟨(by rw [hX]; rfl), H11⟩
    · have hX : catR rdf tab ls ≠ [] := fun e => by rw [e] at hcl; simp at hcl; omega
      obtain ⟨FW, hFW⟩ := Hold.rowW H6 8 rfl
      obtain ⟨g9, c9, rfl, hc9⟩ := W_adr0 hFW hX
      refine ex rfl (sq ?_)
      refine rde mixed ?_
      intro w5 c5
      have H7 : Hold w F w5 [rB gp 98 ([dv, wv, .map (some mg)]), rR u8 5 dv xs, rR kW 100 wv ps, rM mg (yng ps), rR kE 115 tv tab, rPool 2 pl, rB g4 89 ([.string nm, .int .i64 sz, lv]), rB g7 203 ([pv, .slice (some ⟨g9, 0, none⟩) (catR rdf tab ls).length c9]), rR u8 5 (.slice (some ⟨g9, 0, none⟩) (catR rdf tab ls).length c9) (catR rdf tab ls)] := Hold.t H6 c5
      clear H6
      clear c5
      have H8 : Hold w F w5 [rB g7 203 ([pv, .slice (some ⟨g9, 0, none⟩) (catR rdf tab ls).length c9]), rR u8 5 (.slice (some ⟨g9, 0, none⟩) (catR rdf tab ls).length c9) (catR rdf tab ls), rB gp 98 ([dv, wv, .map (some mg)]), rR u8 5 dv xs, rR kW 100 wv ps, rM mg (yng ps), rR kE 115 tv tab, rPool 2 pl, rB g4 89 ([.string nm, .int .i64 sz, lv])] := Hold.re H7 [7, 8, 0, 1, 2, 3, 4, 5, 6] (by kernel_rfl) (by rfl)
      clear H7
      obtain ⟨Fd6, hFd6, nd6, Kd6, Xd6, sd6⟩ := Hold.frontx (Γ := [rB g7 203 ([pv, .slice (some ⟨g9, 0, none⟩) (catR rdf tab ls).length c9]), rR u8 5 (.slice (some ⟨g9, 0, none⟩) (catR rdf tab ls).length c9) (catR rdf tab ls)]) (Δ := [rB gp 98 ([dv, wv, .map (some mg)]), rR u8 5 dv xs, rR kW 100 wv ps, rM mg (yng ps), rR kE 115 tv tab, rPool 2 pl, rB g4 89 ([.string nm, .int .i64 sz, lv])]) H8
      have H6d0 : Hold w5 Fd6 w5 [rB g7 203 ([pv, .slice (some ⟨g9, 0, none⟩) (catR rdf tab ls).length c9]), rR u8 5 (.slice (some ⟨g9, 0, none⟩) (catR rdf tab ls).length c9) (catR rdf tab ls)] := Hold.begin hFd6 nd6
      refine ⟨fun w' => Ch Fd6 w5 w', Ch.refl _ _, ?_⟩
      obtain ⟨_, ⟨rfl, b7⟩, x7⟩ := Xd6 6 (rB g4 89 ([.string nm, .int .i64 sz, lv])) rfl
      obtain ⟨F8, hF8, n8, s8, K8⟩ := Hold.front (Γ := [rB g7 203 ([pv, .slice (some ⟨g9, 0, none⟩) (catR rdf tab ls).length c9]), rR u8 5 (.slice (some ⟨g9, 0, none⟩) (catR rdf tab ls).length c9) (catR rdf tab ls)]) (Δ := []) H6d0
      refine edt 1 rfl (by kernel_rfl) (fun w' hS => fa Tryz.underlying89 rfl ti2 rfl y4) (edt 2 rfl (by kernel_rfl) (fun w' hS => Rn.cast (v' := .int .i64 ((sz.toNat : Nat) : Int)) (ldb Tryz.underlying2 rfl rfl (hS.b b7 (x7 _ (by simp))) rfl) (congrArg (Value.int .i64) (by omega))) (ed1 0 (by kernel_rfl) <| euc rfl go127 (ac y7 an) (Builder_String hF8 n8 hc9 hX h8 (by omega)) ?_))
      rintro r wS ⟨rfl, HS⟩
      have H9d : Hold w5 Fd6 wS [] := Hold.call K8 HS
      clear H6d0
      clear K8 hF8 n8 s8
      clear HS
      refine ⟨.inr (Hold.ch H9d), ?_⟩
      refine edt 3 rfl (by kernel_rfl) (fun w' hS => ssh sz.toNat Tryz.underlying9 rfl rfl (by rw [mkS_size]; omega)) ?_
      have H10 : Hold w F wS [rB gp 98 ([dv, wv, .map (some mg)]), rR u8 5 dv xs, rR kW 100 wv ps, rM mg (yng ps), rR kE 115 tv tab, rPool 2 pl, rB g4 89 ([.string nm, .int .i64 sz, lv])] := Hold.call Kd6 H9d
      clear H9d H8
      refine ed1 4 (by kernel_rfl) <| eur rfl (sa rfl) (.inl (by kernel_rfl)) ?_
      refine edd (by kernel_rfl) ?_
      refine rt ?_
      have H11 : Hold w F wS [rPl gp (logs s b + s * b) rdf, rR kE 115 tv tab, rPool 2 pl, rB g4 89 ([.string nm, .int .i64 sz, lv])] := Hold.plI hDk H10
      clear H10
      have H12 : Hold w F wS [rPl gp (logs s b + s * b) rdf, rR kE 115 tv tab, rPool 2 pl] := (show Hold w F wS ([rPl gp (logs s b + s * b) rdf, rR kE 115 tv tab, rPool 2 pl] ++ [rB g4 89 ([.string nm, .int .i64 sz, lv])]) from Hold.re H11 [0, 1, 2, 3] (by kernel_rfl) (by rfl)).drop
      clear H11
      exact fin1 (v := .string (mkS ((nums8 (mkS (catR rdf tab ls))).take sz.toNat))) Tryz.results92 rfl ⟨(by rw [nums8_mkS h8]), H12⟩
end Go.Proofs.YtanfhikfeabidaaGreatDoor
