/-
 THE LAW'S WALK: FnChoose. No condition.
-/
import Derived.Test.Ytgpcanjmgdmdhaa53
import Derived.Test.Ytgpcanjmgdmdhaa54
import Derived.Test.Ytgpcanjmgdmdhaa4
namespace Go.Proofs.Ytgpcanjmgdmdhaa
open Go Go.Eng
universe u
set_option maxRecDepth 100000
set_option maxHeartbeats 4000000
set_option linter.unusedVariables false
set_option linter.unusedSimpArgs false
theorem E {α : Sort u} {a : α} : a = a := rfl
theorem ok8_wh {xs : List Int} (h : ∀ x, x ∈ xs → (Lit.int .u8 x).wf = true) : ok8 xs := fun x hx => by
 have := h x hx
 simp [Lit.wf, IntKind.min, IntKind.max, IntKind.signed, IntKind.bits] at this
 omega
theorem chos (p : Int → Bool) (a : Int) (xs : List Int) : ∀ k, k ≤ xs.length → (segs p a xs k = [] ∧ ∀ i (hi : i < xs.length), i < k → ¬ (i : Int) = a → p xs[i] = false) ∨
  ∃ j, ∃ hj : j < xs.length, j < k ∧ segs p a xs k ≠ [] ∧ bst (segs p a xs k) = ((j : Int), xs[j]) ∧ ¬ (j : Int) = a ∧ p xs[j] = true ∧ ∀ i (hi : i < xs.length), i < k → ¬ (i : Int) = a → p xs[i] = true → xs[j] < xs[i] ∨ (xs[j] = xs[i] ∧ j ≤ i) := by
 intro k
 induction k with
 | zero => intro _; exact .inl ⟨by simp [segs], fun i hi h => by omega⟩
 | succ k ih =>
  intro hk
  have hk' : k < xs.length := by omega
  rw [segs_succ hk']
  by_cases c : (decide (¬ (k : Int) = a) && p xs[k]) = true
  ·rw [if_pos c]
   simp only [Bool.and_eq_true, decide_eq_true_eq] at c
   right
   rcases ih (by omega) with ⟨h1, h2⟩ | ⟨j, hj, h1, h2, h3, h4, h5, h6⟩
   ·refine ⟨k, hk', by omega, by simp, by rw [h1]; rfl, c.1, c.2, fun i hi hl ha hp => ?_⟩
    by_cases e : i = k
    ·subst e; exact .inr ⟨rfl, Nat.le_refl _⟩
    ·rw [h2 i hi (by omega) ha] at hp; cases hp
   ·rw [bst_snoc h2, h3]
    by_cases hc : xs[k] < xs[j]
    ·refine ⟨k, hk', by omega, by simp, by rw [if_pos hc], c.1, c.2, fun i hi hl ha hp => ?_⟩
     by_cases e : i = k
     ·subst e; exact .inr ⟨rfl, Nat.le_refl _⟩
     ·rcases h6 i hi (by omega) ha hp with h | h <;> left <;> omega
    ·refine ⟨j, hj, by omega, by simp, by rw [if_neg hc], h4, h5, fun i hi hl ha hp => ?_⟩
     by_cases e : i = k
     ·subst e; by_cases hlt : xs[j] < xs[i]
      ·exact .inl hlt
      ·exact .inr ⟨by omega, by omega⟩
     ·exact h6 i hi (by omega) ha hp
  ·rw [if_neg c, List.append_nil]
   simp only [Bool.and_eq_true, decide_eq_true_eq, not_and, Bool.not_eq_true] at c
   rcases ih (by omega) with ⟨h1, h2⟩ | ⟨j, hj, h1, h2, h3, h4, h5, h6⟩
   ·refine .inl ⟨h1, fun i hi hl ha => ?_⟩
    by_cases e : i = k
    ·subst e; exact c ha
    ·exact h2 i hi (by omega) ha
   ·refine .inr ⟨j, hj, by omega, h2, h3, h4, h5, fun i hi hl ha hp => ?_⟩
    by_cases e : i = k
    ·subst e; rw [c ha] at hp; cases hp
    ·exact h6 i hi (by omega) ha hp
theorem chosN (p : Int → Bool) (a : Int) (xs : List Int) : (numb (segs p a xs xs.length) = -1 ∧ ∀ i (hi : i < xs.length), ¬ (i : Int) = a → p xs[i] = false) ∨
  ∃ j, ∃ hj : j < xs.length, numb (segs p a xs xs.length) = (j : Int) ∧ ¬ (j : Int) = a ∧ p xs[j] = true ∧ ∀ i (hi : i < xs.length), ¬ (i : Int) = a → p xs[i] = true → xs[j] < xs[i] ∨ (xs[j] = xs[i] ∧ j ≤ i) := by
 rcases chos p a xs xs.length (Nat.le_refl _) with ⟨h1, h2⟩ | ⟨j, hj, h1, h2, h3, h4, h5, h6⟩
 ·exact .inl ⟨by rw [h1]; rfl, fun i hi => h2 i hi hi⟩
 ·exact .inr ⟨j, hj, by rw [numb, if_pos (List.length_pos_iff.2 h2), h3], h4, h5, fun i hi => h6 i hi hi⟩
theorem inside_iff {m c : Int} : inside m c = true ↔ 1 ≤ c ∧ c < m := by simp [inside]
theorem flD_nil {t : List (Int × Bool)} {n : Int} (h : n < 0 ∨ ((freeN t t.length).length : Int) < n) : flD t n = [] := by
 unfold flD; split
 ·rfl
 ·rw [if_neg (by omega)]
theorem flD_full {t : List (Int × Bool)} {n : Int} (h : 0 ≤ n) (h' : n ≤ ((freeN t t.length).length : Int)) : ((flD t n).length : Int) = n ∧ ∀ k : Nat, (k : Int) < n → (flD t n)[k]? = (freeN t t.length)[k]? := by
 unfold flD; split
 ·exact ⟨by simp; omega, fun k hk => by omega⟩
 ·exact ⟨by simp; omega, fun k hk => by rw [List.getElem?_take, if_pos (by omega)]⟩
theorem freeN_at {t : List (Int × Bool)} {i : Nat} (hi : i < t.length) (h0 : t[i].1 = 0) : (freeN t t.length)[(freeN t i).length]? = some ((i : Int) + 1) := by
 obtain ⟨h1, h2⟩ := freeN_pre (t := t) (i := i + 1) t.length (by omega)
 rw [freeN_yes hi h0] at h1 h2
 simp only [List.length_append, List.length_cons, List.length_nil] at h1 h2
 have h3 := congrArg (fun l => l[(freeN t i).length]?) h1
 simp only [List.getElem?_take, List.getElem?_append_right (Nat.le_refl _), Nat.sub_self, List.getElem?_cons_zero] at h3
 rwa [if_pos (by omega)] at h3
theorem w_FnChoose {w : World} {F : List Nat} {v : Value} {xs : List Int} (hx : u8.R w F v xs) (l0 : xs.length ≤ 9223372036854775807) (ok : ok8 xs) :
  Ret Try.prog 10 #[v] w (fun r w' => r = .bool true ∧ Ch [] w w') := by
 refine enter Try.func10 E Try.ntmps10 (by rfl) (by rfl) ?_
 have H0 : Hold w [] w [] := Hold.start w
 refine sq (rg (r (sa E) (re (sq (sq (rg (r (mv E) (r (ln Try.underlying40 E ((hx.t (Hold.ch H0)))) (r (bi E E E) (re ?_))))))))))
 refine cp E (fun hlen => ?_) (fun hlen => ?_)
 ·refine sq (rg (r (sa E) (re (rt ?_))))
  exact fin1 (v := .bool true) Try.results10 E ⟨E,Hold.ch H0⟩
 ·have lv : xs.length ≤ 1000000000 := by omega
  refine sk (sq (rg (r (mv E) (cl go54 (DrawPickVictim (hx.t (Hold.ch H0)) lv ok) (ac E an) ?_))))
  rintro rtu wd ⟨cs, aq, mz, o1, rfl, hcs, Hd⟩
  have H1 : Hold w [] wd [rR i64 2 o1 cs] := Hold.news H0 Hd
  clear H0
  clear Hd
  refine r (mv E) (r (xt E E) (r (xt E E) (r (xt E E) (r (sa E) (r (sa E) (r (sa E) (re (sq ?_))))))))
  refine gen (fun ρ=>ρ 0 = v∧ρ 2=.bool false∧ρ 3 = o1∧ρ 4=.int .i64 aq∧ρ 5=.int .i64 mz∧True) ⟨E,E,E,E,E,trivial⟩ ?_
  rintro ρ ⟨z0, z2, z3, z4, z5, -⟩
  refine rg (r (mv z3) (r (mv z4) (r (mv z5) ?_)))
  rcases chosN (inside mz) aq cs with ⟨hV, hVn⟩ | ⟨j, hj, hV, hja, hjp, hjm⟩
  ·rcases chosN (fun c => decide (c = 0)) aq cs with ⟨hW, hWn⟩ | ⟨f, hf, hW, hfa, hfp, hfm⟩
   ·have hvv := hVn
    have hww := hWn
    obtain ⟨_, R3⟩ : ∃ F, Kd.R i64 wd F o1 cs := Hold.row H1 0 rfl
    refine cl go28 (impl_PickVictim R3 (by omega)) (ac E (ac E (ac E an))) ?_
    rintro rp wp ⟨er, cp1⟩
    rw [hV] at er
    subst er
    have H2 : Hold w [] wp [rR i64 2 o1 cs] := Hold.t H1 cp1
    clear H1
    clear cp1
    obtain ⟨_, R5⟩ : ∃ F, Kd.R i64 wp F o1 cs := Hold.row H2 0 rfl
    refine r (sa E) (re (sq (rg (r (mv z3) (r (mv z4) (cl go25 (impl_FreeSegment R5 (by omega)) (ac E (ac E an)) ?_))))))
    rintro rs wsg ⟨er2, cp2⟩
    rw [hW] at er2
    subst er2
    have H3 : Hold w [] wsg [rR i64 2 o1 cs] := Hold.t H2 cp2
    clear H2
    clear cp2
    refine r (sa E) (re (sq (sq (rg (r (mv E) (r (bi E E E) (r (mv E) ?_)))))))
    refine spf 34 E (show (decide ((-1 : Int) < (-1))) = false from (by decide)) ?_
    obtain ⟨_, R6⟩ : ∃ F, Kd.R i64 wsg F o1 cs := Hold.row H3 0 rfl
    refine gy E E E (r (mv E) (gy E E E (r (mv z3) (gy E E E (r (ln Try.underlying22 E (R6)) (gy E E E (r (bi E E E) (r (pk E E) (r (mv E) ?_)))))))))
    refine sp 40 E (fun k1 => ?_) (fun k1 => ?_)
    ·refine gn E E E (gn E E E (r (pk E E) (r (mv E) (gn E E E (gn E E E (gn E E E (gn E E E (r (pk E E) (re (ct E (sq ?_)))))))))))
     refine gen (fun ρ=>ρ 0 = v∧ρ 2=.bool false∧ρ 3 = o1∧ρ 4=.int .i64 aq∧ρ 5=.int .i64 mz∧ρ 6=.int .i64 (-1)∧ρ 7=.int .i64 (-1)∧True) ⟨z0,z2,z3,z4,z5,E,E,trivial⟩ ?_
     rintro ρ ⟨z0, z2, z3, z4, z5, z6, z7, -⟩
     refine rg (r (sa E) (re (rt ?_)))
     exfalso; omega
    ·refine gy E E E (r (mv E) (gy E E E (r (bi E E E) (r (pk E E) (r (mv E) ?_)))))
     refine spf 44 E (show (decide ((-1 : Int) < (-1))) = false from (by decide)) ?_
     refine gy E E E (r (mv E) (gy E E E (r (mv z3) (gy E E E (r (ln Try.underlying22 E (R6)) (gy E E E (r (bi E E E) (r (pk E E) (re ?_)))))))))
     refine cp E (fun k2 => ?_) (fun k2 => ?_)
     ·refine sq ?_
      refine gen (fun ρ=>ρ 0 = v∧ρ 2=.bool false∧ρ 3 = o1∧ρ 4=.int .i64 aq∧ρ 5=.int .i64 mz∧ρ 6=.int .i64 (-1)∧ρ 7=.int .i64 (-1)∧True) ⟨z0,z2,z3,z4,z5,E,E,trivial⟩ ?_
      rintro ρ ⟨z0, z2, z3, z4, z5, z6, z7, -⟩
      refine rg (r (sa E) (re (rt ?_)))
      exfalso; omega
     ·refine sk (sq (sq ?_))
      refine gen (fun ρ=>ρ 0 = v∧ρ 2=.bool false∧ρ 3 = o1∧ρ 4=.int .i64 aq∧ρ 5=.int .i64 mz∧ρ 6=.int .i64 (-1)∧ρ 7=.int .i64 (-1)∧True) ⟨z0,z2,z3,z4,z5,E,E,trivial⟩ ?_
      rintro ρ ⟨z0, z2, z3, z4, z5, z6, z7, -⟩
      refine rg (r (mv z6) (r (bi E E E) (r (mv E) ?_)))
      refine spf 52 E (show (decide (0 ≤ (-1 : Int))) = false from (by decide)) ?_
      refine gn E E E (gn E E E (gn E E E (gn E E E (gu E E E (gu E E E (gu E E E (gu E E E (gu E E E (gn E E E (gn E E E (gu E E E (gu E E E (gu E E E (gu E E E (gu E E E (gu E E E (gn E E E (r (pk E E) (r (mv E) (gy E E E (r (mv z7) (gy E E E (r (bi E E E) (gy E E E (r (mv E) ?_)))))))))))))))))))))))))
      refine spf 75 E (show (decide (0 ≤ (-1 : Int))) = false from (by decide)) ?_
      refine gn E E E (gn E E E (gn E E E (gn E E E (gu E E E (gu E E E (gu E E E (gu E E E (gu E E E (gn E E E (gy E E E (r (pk E E) (r (pk E E) (re (cf E (sk (sq (sq ?_)))))))))))))))))
      refine gen (fun ρ=>ρ 0 = v∧ρ 2=.bool false∧ρ 3 = o1∧ρ 4=.int .i64 aq∧ρ 5=.int .i64 mz∧ρ 6=.int .i64 (-1)∧ρ 7=.int .i64 (-1)∧True) ⟨z0,z2,z3,z4,z5,z6,z7,trivial⟩ ?_
      rintro ρ ⟨z0, z2, z3, z4, z5, z6, z7, -⟩
      refine rg (r (sa E) (re (bl ?_)))
      refine lp (α := Nat) (fun i ρ w' => ρ 0 = v∧ρ 3 = o1∧ρ 4=.int .i64 aq∧ρ 5=.int .i64 mz∧ρ 6=.int .i64 (-1)∧ρ 7=.int .i64 (-1)∧ρ 8=.int .i64 (i : Int)∧Hold w [] w' [rR i64 2 o1 cs]∧i ≤ cs.length) (fun i => cs.length - i) 0 ?_ ?_
      ·exact ⟨z0,z3,z4,z5,z6,z7,E,H3,by omega⟩
      clear H3
      rintro i ρ w504 ⟨y0, y3, y4, y5, y6, y7, y8, H4, hi⟩
      obtain ⟨_, R7⟩ : ∃ F, Kd.R i64 w504 F o1 cs := Hold.row H4 0 rfl
      refine sq (sq (rg (r (mv y8) (r (mv y3) (r (ln Try.underlying22 E (R7)) (r (bi E E E) (re ?_)))))))
      refine cp E (fun hlt => ?_) (fun hlt => ?_)
      ·have hi' : i < cs.length := by omega
       have hvi : ¬ (i : Int) = aq → ¬ (1 ≤ cs[i] ∧ cs[i] < mz) := fun h => by rw [← inside_iff, hVn i hi' h]; simp
       have hwi : ¬ (i : Int) = aq → ¬ cs[i] = 0 := fun h => by have := hWn i hi' h; simpa using this
       refine sk (sq (bl (sq (sq (rg (r (mv y8) (r (mv y4) (r (bi E E E) (r (mv E) ?_)))))))))
       refine spn 97 E (fun k3 => ?_) (fun k3 => ?_)
       ·refine gy E E E (r (mv y3) (gy E E E (r (mv y8) (gy E E E ?_))))
        obtain ⟨c100_8, ad100_8, k100_8, e100_8, p100_8⟩ := Kd.R.place R7 i (hi')
        refine r (ix (j := i) Try.underlying22 ti2 e100_8 E (hi')) (gy E E E (r (ld Try.underlying2 E E p100_8.cell) (gy E E E (r (bi E E E) (r (pk E E) (r (mv E) ?_))))))
        refine sp 104 E (fun k4 => ?_) (fun k4 => ?_)
        ·refine gy E E E (r (mv y3) (gy E E E (r (mv y8) (gy E E E ?_))))
         obtain ⟨c107_9, ad107_9, k107_9, e107_9, p107_9⟩ := Kd.R.place R7 i (hi')
         refine r (ix (j := i) Try.underlying22 ti2 e107_9 E (hi')) (gy E E E (r (ld Try.underlying2 E E p107_9.cell) (gy E E E (r (mv y5) (gy E E E (r (bi E E E) (r (pk E E) (r (mv E) ?_))))))))
         refine sp 112 E (fun k5 => ?_) (fun k5 => ?_)
         ·refine gy E E E (r (mv y8) (gy E E E (r (mv y6) (gy E E E (r (bi E E E) (r (pk E E) (re ?_)))))))
          exfalso; omega
         ·refine gn E E E (gn E E E (gn E E E (r (pk E E) (re (cf E (sk (sq ?_)))))))
          refine gen (fun ρ=>ρ 0 = v∧ρ 3 = o1∧ρ 4=.int .i64 aq∧ρ 5=.int .i64 mz∧ρ 6=.int .i64 (-1)∧ρ 7=.int .i64 (-1)∧ρ 8=.int .i64 (i : Int)∧True) ⟨y0,y3,y4,y5,y6,y7,y8,trivial⟩ ?_
          rintro ρ ⟨z0, z3, z4, z5, z6, z7, z8, -⟩
          refine rg (r (mv z8) (r (mv z4) (r (bi E E E) (r (mv E) ?_))))
          refine spn 149 E (fun k6 => ?_) (fun k6 => ?_)
          ·refine gy E E E (r (mv z3) (gy E E E (r (mv z8) (gy E E E ?_))))
           obtain ⟨c152_10, ad152_10, k152_10, e152_10, p152_10⟩ := Kd.R.place R7 i (hi')
           refine r (ix (j := i) Try.underlying22 ti2 e152_10 E (hi')) (gy E E E (r (ld Try.underlying2 E E p152_10.cell) (gy E E E (r (bi E E E) (r (pk E E) (r (mv E) ?_))))))
           refine sp 156 E (fun k7 => ?_) (fun k7 => ?_)
           ·refine gy E E E (r (mv z7) (gy E E E (r (bi E E E) (gy E E E (r (mv E) ?_)))))
            refine spf 159 E (show (decide ((-1 : Int) < 0)) = true from (by decide)) ?_
            refine gn E E E (gn E E E (gn E E E (gy E E E (r (pk E E) (r (pk E E) (re (ct E (sq ?_))))))))
            refine gen (fun ρ=>ρ 0 = v∧ρ 3 = o1∧ρ 4=.int .i64 aq∧ρ 5=.int .i64 mz∧ρ 6=.int .i64 (-1)∧ρ 7=.int .i64 (-1)∧ρ 8=.int .i64 (i : Int)∧True) ⟨z0,z3,z4,z5,z6,z7,z8,trivial⟩ ?_
            rintro ρ ⟨z0, z3, z4, z5, z6, z7, z8, -⟩
            refine rg (r (sa E) (re (rt ?_)))
            exfalso; omega
           ·refine gn E E E (gn E E E (gn E E E (gu E E E (gu E E E (gu E E E (gn E E E (r (pk E E) (re (cf E (sk (be ?_)))))))))))
            refine gen (fun ρ=>ρ 0 = v∧ρ 3 = o1∧ρ 4=.int .i64 aq∧ρ 5=.int .i64 mz∧ρ 6=.int .i64 (-1)∧ρ 7=.int .i64 (-1)∧ρ 8=.int .i64 (i : Int)∧True) ⟨z0,z3,z4,z5,z6,z7,z8,trivial⟩ ?_
            rintro ρ ⟨z0, z3, z4, z5, z6, z7, z8, -⟩
            refine rg (r (mv z8) (r (ad (a := (i : Int)) (b := 1) ((i : Int) + 1) E E (by omega)) (r (sa E) (re ?_))))
            exact ag (i + 1) ⟨z0,z3,z4,z5,z6,z7,E,H4,by omega⟩ (by first | omega | (dsimp only; omega))
          ·refine gn E E E (gn E E E (gn E E E (gn E E E (gn E E E (r (pk E E) (r (mv E) (gn E E E (gn E E E (gn E E E (gu E E E (gu E E E (gu E E E (gn E E E (r (pk E E) (re (cf E (sk (be ?_))))))))))))))))))
           refine gen (fun ρ=>ρ 0 = v∧ρ 3 = o1∧ρ 4=.int .i64 aq∧ρ 5=.int .i64 mz∧ρ 6=.int .i64 (-1)∧ρ 7=.int .i64 (-1)∧ρ 8=.int .i64 (i : Int)∧True) ⟨z0,z3,z4,z5,z6,z7,z8,trivial⟩ ?_
           rintro ρ ⟨z0, z3, z4, z5, z6, z7, z8, -⟩
           refine rg (r (mv z8) (r (ad (a := (i : Int)) (b := 1) ((i : Int) + 1) E E (by omega)) (r (sa E) (re ?_))))
           exact ag (i + 1) ⟨z0,z3,z4,z5,z6,z7,E,H4,by omega⟩ (by first | omega | (dsimp only; omega))
        ·refine gn E E E (gn E E E (gn E E E (gn E E E (gn E E E (gn E E E (r (pk E E) (r (mv E) (gn E E E (gn E E E (gn E E E (r (pk E E) (re (cf E (sk (sq ?_)))))))))))))))
         refine gen (fun ρ=>ρ 0 = v∧ρ 3 = o1∧ρ 4=.int .i64 aq∧ρ 5=.int .i64 mz∧ρ 6=.int .i64 (-1)∧ρ 7=.int .i64 (-1)∧ρ 8=.int .i64 (i : Int)∧True) ⟨y0,y3,y4,y5,y6,y7,y8,trivial⟩ ?_
         rintro ρ ⟨z0, z3, z4, z5, z6, z7, z8, -⟩
         refine rg (r (mv z8) (r (mv z4) (r (bi E E E) (r (mv E) ?_))))
         refine spn 149 E (fun k8 => ?_) (fun k8 => ?_)
         ·refine gy E E E (r (mv z3) (gy E E E (r (mv z8) (gy E E E ?_))))
          obtain ⟨c152_9, ad152_9, k152_9, e152_9, p152_9⟩ := Kd.R.place R7 i (hi')
          refine r (ix (j := i) Try.underlying22 ti2 e152_9 E (hi')) (gy E E E (r (ld Try.underlying2 E E p152_9.cell) (gy E E E (r (bi E E E) (r (pk E E) (r (mv E) ?_))))))
          refine sp 156 E (fun k9 => ?_) (fun k9 => ?_)
          ·refine gy E E E (r (mv z7) (gy E E E (r (bi E E E) (gy E E E (r (mv E) ?_)))))
           refine spf 159 E (show (decide ((-1 : Int) < 0)) = true from (by decide)) ?_
           refine gn E E E (gn E E E (gn E E E (gy E E E (r (pk E E) (r (pk E E) (re (ct E (sq ?_))))))))
           refine gen (fun ρ=>ρ 0 = v∧ρ 3 = o1∧ρ 4=.int .i64 aq∧ρ 5=.int .i64 mz∧ρ 6=.int .i64 (-1)∧ρ 7=.int .i64 (-1)∧ρ 8=.int .i64 (i : Int)∧True) ⟨z0,z3,z4,z5,z6,z7,z8,trivial⟩ ?_
           rintro ρ ⟨z0, z3, z4, z5, z6, z7, z8, -⟩
           refine rg (r (sa E) (re (rt ?_)))
           exfalso; omega
          ·refine gn E E E (gn E E E (gn E E E (gu E E E (gu E E E (gu E E E (gn E E E (r (pk E E) (re (cf E (sk (be ?_)))))))))))
           refine gen (fun ρ=>ρ 0 = v∧ρ 3 = o1∧ρ 4=.int .i64 aq∧ρ 5=.int .i64 mz∧ρ 6=.int .i64 (-1)∧ρ 7=.int .i64 (-1)∧ρ 8=.int .i64 (i : Int)∧True) ⟨z0,z3,z4,z5,z6,z7,z8,trivial⟩ ?_
           rintro ρ ⟨z0, z3, z4, z5, z6, z7, z8, -⟩
           refine rg (r (mv z8) (r (ad (a := (i : Int)) (b := 1) ((i : Int) + 1) E E (by omega)) (r (sa E) (re ?_))))
           exact ag (i + 1) ⟨z0,z3,z4,z5,z6,z7,E,H4,by omega⟩ (by first | omega | (dsimp only; omega))
         ·refine gn E E E (gn E E E (gn E E E (gn E E E (gn E E E (r (pk E E) (r (mv E) (gn E E E (gn E E E (gn E E E (gu E E E (gu E E E (gu E E E (gn E E E (r (pk E E) (re (cf E (sk (be ?_))))))))))))))))))
          refine gen (fun ρ=>ρ 0 = v∧ρ 3 = o1∧ρ 4=.int .i64 aq∧ρ 5=.int .i64 mz∧ρ 6=.int .i64 (-1)∧ρ 7=.int .i64 (-1)∧ρ 8=.int .i64 (i : Int)∧True) ⟨z0,z3,z4,z5,z6,z7,z8,trivial⟩ ?_
          rintro ρ ⟨z0, z3, z4, z5, z6, z7, z8, -⟩
          refine rg (r (mv z8) (r (ad (a := (i : Int)) (b := 1) ((i : Int) + 1) E E (by omega)) (r (sa E) (re ?_))))
          exact ag (i + 1) ⟨z0,z3,z4,z5,z6,z7,E,H4,by omega⟩ (by first | omega | (dsimp only; omega))
       ·refine gn E E E (gn E E E (gn E E E (gn E E E (gn E E E (r (pk E E) (r (mv E) (gn E E E (gn E E E (gn E E E (gn E E E (gn E E E (gn E E E (r (pk E E) (r (mv E) (gn E E E (gn E E E (gn E E E (r (pk E E) (re (cf E (sk (sq ?_))))))))))))))))))))))
        refine gen (fun ρ=>ρ 0 = v∧ρ 3 = o1∧ρ 4=.int .i64 aq∧ρ 5=.int .i64 mz∧ρ 6=.int .i64 (-1)∧ρ 7=.int .i64 (-1)∧ρ 8=.int .i64 (i : Int)∧True) ⟨y0,y3,y4,y5,y6,y7,y8,trivial⟩ ?_
        rintro ρ ⟨z0, z3, z4, z5, z6, z7, z8, -⟩
        refine rg (r (mv z8) (r (mv z4) (r (bi E E E) (r (mv E) ?_))))
        refine spn 149 E (fun k10 => ?_) (fun k10 => ?_)
        ·refine gy E E E (r (mv z3) (gy E E E (r (mv z8) (gy E E E ?_))))
         obtain ⟨c152_8, ad152_8, k152_8, e152_8, p152_8⟩ := Kd.R.place R7 i (hi')
         refine r (ix (j := i) Try.underlying22 ti2 e152_8 E (hi')) (gy E E E (r (ld Try.underlying2 E E p152_8.cell) (gy E E E (r (bi E E E) (r (pk E E) (r (mv E) ?_))))))
         refine sp 156 E (fun k11 => ?_) (fun k11 => ?_)
         ·refine gy E E E (r (mv z7) (gy E E E (r (bi E E E) (gy E E E (r (mv E) ?_)))))
          refine spf 159 E (show (decide ((-1 : Int) < 0)) = true from (by decide)) ?_
          refine gn E E E (gn E E E (gn E E E (gy E E E (r (pk E E) (r (pk E E) (re (ct E (sq ?_))))))))
          refine gen (fun ρ=>ρ 0 = v∧ρ 3 = o1∧ρ 4=.int .i64 aq∧ρ 5=.int .i64 mz∧ρ 6=.int .i64 (-1)∧ρ 7=.int .i64 (-1)∧ρ 8=.int .i64 (i : Int)∧True) ⟨z0,z3,z4,z5,z6,z7,z8,trivial⟩ ?_
          rintro ρ ⟨z0, z3, z4, z5, z6, z7, z8, -⟩
          refine rg (r (sa E) (re (rt ?_)))
          exfalso; omega
         ·refine gn E E E (gn E E E (gn E E E (gu E E E (gu E E E (gu E E E (gn E E E (r (pk E E) (re (cf E (sk (be ?_)))))))))))
          refine gen (fun ρ=>ρ 0 = v∧ρ 3 = o1∧ρ 4=.int .i64 aq∧ρ 5=.int .i64 mz∧ρ 6=.int .i64 (-1)∧ρ 7=.int .i64 (-1)∧ρ 8=.int .i64 (i : Int)∧True) ⟨z0,z3,z4,z5,z6,z7,z8,trivial⟩ ?_
          rintro ρ ⟨z0, z3, z4, z5, z6, z7, z8, -⟩
          refine rg (r (mv z8) (r (ad (a := (i : Int)) (b := 1) ((i : Int) + 1) E E (by omega)) (r (sa E) (re ?_))))
          exact ag (i + 1) ⟨z0,z3,z4,z5,z6,z7,E,H4,by omega⟩ (by first | omega | (dsimp only; omega))
        ·refine gn E E E (gn E E E (gn E E E (gn E E E (gn E E E (r (pk E E) (r (mv E) (gn E E E (gn E E E (gn E E E (gu E E E (gu E E E (gu E E E (gn E E E (r (pk E E) (re (cf E (sk (be ?_))))))))))))))))))
         refine gen (fun ρ=>ρ 0 = v∧ρ 3 = o1∧ρ 4=.int .i64 aq∧ρ 5=.int .i64 mz∧ρ 6=.int .i64 (-1)∧ρ 7=.int .i64 (-1)∧ρ 8=.int .i64 (i : Int)∧True) ⟨z0,z3,z4,z5,z6,z7,z8,trivial⟩ ?_
         rintro ρ ⟨z0, z3, z4, z5, z6, z7, z8, -⟩
         refine rg (r (mv z8) (r (ad (a := (i : Int)) (b := 1) ((i : Int) + 1) E E (by omega)) (r (sa E) (re ?_))))
         exact ag (i + 1) ⟨z0,z3,z4,z5,z6,z7,E,H4,by omega⟩ (by first | omega | (dsimp only; omega))
      ·refine ex E (sq (rg (r (mv y0) (cl go55 (DrawFreeLids (hx.t (Hold.ch H4)) lv ok) (ac E an) ?_))))
       rintro rtv wd2 ⟨t, nn, o2, rfl, ht, Hd2⟩
       have H5 : Hold w [] wd2 [rR i64 2 o1 cs, rR kE 70 o2 t] := Hold.news H4 Hd2
       clear H4
       clear Hd2
       refine r (mv E) (r (xt E E) (r (xt E E) (r (sa E) (r (sa E) (re (sq ?_))))))
       refine gen (fun ρ=>ρ 9 = o2∧ρ 10=.int .i64 nn∧True) ⟨E,E,trivial⟩ ?_
       rintro ρ ⟨z9, z10, -⟩
       obtain ⟨_, R10⟩ : ∃ F, Kd.R kE wd2 F o2 t := Hold.row H5 1 rfl
       refine rg (r (mv z9) (r (mv z10) (cl go47 (impl_FreeLids R10 (by omega)) (ac E (ac E an)) ?_)))
       rintro rfl_ wfl ⟨efl, Hfl⟩
       have H6 : Hold w [] wfl [rR i64 2 o1 cs, rR kE 70 o2 t, rR i64 efl rfl_ (flD t nn)] := Hold.news H5 Hfl
       clear H5
       clear Hfl
       refine r (sa E) (re (sq (rg (r (sa E) (re (sq (sq (rg (r (sa E) (re (bl ?_)))))))))))
       refine lp (α := Nat) (fun i ρ w' => ρ 9 = o2∧ρ 10=.int .i64 nn∧ρ 11 = rfl_∧ρ 12=.int .i64 ((freeN t i).length : Int)∧ρ 13=.int .i64 (i : Int)∧Hold w [] w' [rR i64 2 o1 cs,rR kE 70 o2 t,rR i64 efl rfl_ (flD t nn)]∧i ≤ t.length) (fun i => t.length - i) 0 ?_ ?_
       ·exact ⟨z9,z10,E,E,E,H6,by omega⟩
       clear H6
       rintro i ρ w507 ⟨y9, y10, y11, y12, y13, H7, hi2⟩
       obtain ⟨_, R11⟩ : ∃ F, Kd.R kE w507 F o2 t := Hold.row H7 1 rfl
       refine sq (sq (rg (r (mv y13) (r (mv y9) (r (ln Try.underlying57 E (R11)) (r (bi E E E) (re ?_)))))))
       refine cp E (fun hlt2 => ?_) (fun hlt2 => ?_)
       ·have hi3 : i < t.length := by omega
        have hfl := freeN_len t i
        refine sk (sq (bl (sq (rg (r (mv y9) (r (mv y13) ?_))))))
        obtain ⟨c181_12, ad181_12, k181_12, e181_12, p181_12⟩ := Kd.R.place R11 i (hi3)
        have q181_12 := en_at p181_12
        refine r (ix (j := i) Try.underlying57 ti70 e181_12 E (hi3)) (r (fa' Try.underlying70 E ti2 E E) (r (ld Try.underlying2 E E (q181_12 0 _ E)) (r (bi E E E) (re ?_))))
        refine cp E (fun hz => ?_) (fun hz => ?_)
        ·refine gen (fun ρ=>ρ 9 = o2∧ρ 10=.int .i64 nn∧ρ 11 = rfl_∧ρ 12=.int .i64 ((freeN t i).length : Int)∧ρ 13=.int .i64 (i : Int)∧True) ⟨y9,y10,y11,y12,y13,trivial⟩ ?_
         rintro ρ ⟨z9, z10, z11, z12, z13, -⟩
         refine rg (r (mv z12) (r (ad (a := ((freeN t i).length : Int)) (b := 1) (((freeN t (i + 1)).length : Int)) E E (by rw [freeN_yes hi3 hz]; simp; omega)) (r (sa E) (re (be (rg (r (mv z13) (r (ad (a := (i : Int)) (b := 1) ((i : Int) + 1) E E (by omega)) (r (sa E) (re ?_))))))))))
         exact ag (i + 1) ⟨z9,z10,z11,E,E,H7,by omega⟩ (by first | omega | (dsimp only; omega))
        ·refine sk (be ?_)
         refine gen (fun ρ=>ρ 9 = o2∧ρ 10=.int .i64 nn∧ρ 11 = rfl_∧ρ 12=.int .i64 ((freeN t i).length : Int)∧ρ 13=.int .i64 (i : Int)∧True) ⟨y9,y10,y11,y12,y13,trivial⟩ ?_
         rintro ρ ⟨z9, z10, z11, z12, z13, -⟩
         refine rg (r (mv z13) (r (ad (a := (i : Int)) (b := 1) ((i : Int) + 1) E E (by omega)) (r (sa E) (re ?_))))
         rw [← freeN_no hi3 hz] at z12
         exact ag (i + 1) ⟨z9,z10,z11,z12,E,H7,by omega⟩ (by first | omega | (dsimp only; omega))
       ·obtain rfl : i = t.length := by omega
        refine ex E (sq (sq (rg (r (mv y10) (r (bi E E E) (r (mv E) ?_))))))
        refine sp 189 E (fun hn1 => ?_) (fun hn1 => ?_)
        ·refine gn E E E (gn E E E (gn E E E (r (pk E E) (re (ct E (sq ?_))))))
         refine gen (fun ρ=>ρ 9 = o2∧ρ 10=.int .i64 nn∧ρ 11 = rfl_∧True) ⟨y9,y10,y11,trivial⟩ ?_
         rintro ρ ⟨z9, z10, z11, -⟩
         obtain ⟨_, R12⟩ : ∃ F, Kd.R i64 w507 F rfl_ (flD t nn) := Hold.row H7 2 rfl
         refine rg (r (mv z11) (r (ln Try.underlying22 E (R12)) (r (bi E E E) (r (sa E) (re (rt ?_))))))
         exact fin1 (v := .bool (decide (((flD t nn).length : Int) = 0))) Try.results10 E ⟨congrArg Value.bool (by rw [flD_nil (.inl hn1)]; simp),Hold.ch H7⟩
        ·refine gy E E E (r (mv y10) (gy E E E (r (mv y12) (gy E E E (r (bi E E E) (r (pk E E) (re ?_)))))))
         refine cp E (fun hn2 => ?_) (fun hn2 => ?_)
         ·refine sq ?_
          refine gen (fun ρ=>ρ 9 = o2∧ρ 10=.int .i64 nn∧ρ 11 = rfl_∧True) ⟨y9,y10,y11,trivial⟩ ?_
          rintro ρ ⟨z9, z10, z11, -⟩
          obtain ⟨_, R12⟩ : ∃ F, Kd.R i64 w507 F rfl_ (flD t nn) := Hold.row H7 2 rfl
          refine rg (r (mv z11) (r (ln Try.underlying22 E (R12)) (r (bi E E E) (r (sa E) (re (rt ?_))))))
          exact fin1 (v := .bool (decide (((flD t nn).length : Int) = 0))) Try.results10 E ⟨congrArg Value.bool (by rw [flD_nil (.inr (by omega))]; simp),Hold.ch H7⟩
         ·obtain ⟨hF1, hF2⟩ := flD_full (t := t) (n := nn) (by omega) (by omega)
          refine sk (sq (sq ?_))
          refine gen (fun ρ=>ρ 9 = o2∧ρ 10=.int .i64 nn∧ρ 11 = rfl_∧True) ⟨y9,y10,y11,trivial⟩ ?_
          rintro ρ ⟨z9, z10, z11, -⟩
          obtain ⟨_, R12⟩ : ∃ F, Kd.R i64 w507 F rfl_ (flD t nn) := Hold.row H7 2 rfl
          refine rg (r (mv z11) (r (ln Try.underlying22 E (R12)) (r (mv z10) (r (bi E E E) (re ?_)))))
          refine cf ((E : _ = Value.bool (!decide (((flD t nn).length : Int) = nn))).trans (congrArg Value.bool (show (!decide (((flD t nn).length : Int) = nn)) = false from (by rw [decide_eq_true hF1]; rfl)))) ?_
          refine sk (sq (rg (r (sa E) (re (sq (sq (rg (r (sa E) (re (bl ?_))))))))))
          refine lp (α := Nat) (fun i ρ w' => ρ 9 = o2∧ρ 10=.int .i64 nn∧ρ 11 = rfl_∧ρ 14=.int .i64 ((freeN t i).length : Int)∧ρ 15=.int .i64 (i : Int)∧Hold w [] w' [rR i64 2 o1 cs,rR kE 70 o2 t,rR i64 efl rfl_ (flD t nn)]∧i ≤ t.length) (fun i => t.length - i) 0 ?_ ?_
          ·exact ⟨z9,z10,z11,E,E,H7,by omega⟩
          clear H7
          rintro i ρ w508 ⟨y9, y10, y11, y14, y15, H8, hi2⟩
          obtain ⟨_, R13⟩ : ∃ F, Kd.R kE w508 F o2 t := Hold.row H8 1 rfl
          refine sq (sq (rg (r (mv y15) (r (mv y9) (r (ln Try.underlying57 E (R13)) (r (bi E E E) (r (mv E) ?_)))))))
          refine sp 205 E (fun hm1 => ?_) (fun hm1 => ?_)
          ·refine gy E E E (r (mv y14) (gy E E E (r (mv y10) (gy E E E (r (bi E E E) (r (pk E E) (re ?_)))))))
           refine cp E (fun hm2 => ?_) (fun hm2 => ?_)
           ·have hi3 : i < t.length := by omega
            have hfl := freeN_len t i
            refine sk (sq (bl (sq (rg (r (mv y9) (r (mv y15) ?_))))))
            obtain ⟨c214_14, ad214_14, k214_14, e214_14, p214_14⟩ := Kd.R.place R13 i (hi3)
            have q214_14 := en_at p214_14
            refine r (ix (j := i) Try.underlying57 ti70 e214_14 E (hi3)) (r (fa' Try.underlying70 E ti2 E E) (r (ld Try.underlying2 E E (q214_14 0 _ E)) (r (bi E E E) (re ?_))))
            refine cp E (fun hz => ?_) (fun hz => ?_)
            ·have hkl : (freeN t i).length < (flD t nn).length := by omega
             have hAt : (flD t nn)[(freeN t i).length] = (i : Int) + 1 := by
              have h9 := (hF2 _ hm2).trans (freeN_at hi3 hz)
              rw [List.getElem?_eq_getElem hkl] at h9; exact Option.some.inj h9
             obtain ⟨kk, hkk⟩ : ∃ k, k = (freeN t i).length := ⟨_, rfl⟩
             refine sq (sq ?_)
             refine gen (fun ρ=>ρ 9 = o2∧ρ 10=.int .i64 nn∧ρ 11 = rfl_∧ρ 14=.int .i64 ((freeN t i).length : Int)∧ρ 15=.int .i64 (i : Int)∧True) ⟨y9,y10,y11,y14,y15,trivial⟩ ?_
             rintro ρ ⟨z9, z10, z11, z14, z15, -⟩
             obtain ⟨_, R15⟩ : ∃ F, Kd.R i64 w508 F rfl_ (flD t nn) := Hold.row H8 2 rfl
             refine rg (r (mv z11) (r (mv z14) ?_))
             obtain ⟨c220_16, ad220_16, k220_16, e220_16, p220_16⟩ := Kd.R.place R15 ((freeN t i).length) (hkl)
             refine r (ix (j := (freeN t i).length) Try.underlying22 ti2 e220_16 E (hkl)) (r (ld Try.underlying2 E E p220_16.cell) (r (mv z15) (r (ad (a := (i : Int)) (b := 1) ((i : Int) + 1) E E (by omega)) (r (bi E E E) (re ?_)))))
             refine cf ((E : _ = Value.bool (!decide (((flD t nn)[(freeN t i).length]) = ((i : Int) + 1)))).trans (congrArg Value.bool (show (!decide (((flD t nn)[(freeN t i).length]) = ((i : Int) + 1))) = false from (by rw [decide_eq_true hAt]; rfl)))) ?_
             refine sk (rg (r (mv z14) (r (ad (a := ((freeN t i).length : Int)) (b := 1) (((freeN t (i + 1)).length : Int)) E E (by rw [freeN_yes hi3 hz]; simp; omega)) (r (sa E) (re (be ?_))))))
             refine gen (fun ρ=>ρ 9 = o2∧ρ 10=.int .i64 nn∧ρ 11 = rfl_∧ρ 14=.int .i64 ((freeN t (i + 1)).length : Int)∧ρ 15=.int .i64 (i : Int)∧True) ⟨z9,z10,z11,E,z15,trivial⟩ ?_
             rintro ρ ⟨z9, z10, z11, z14, z15, -⟩
             refine rg (r (mv z15) (r (ad (a := (i : Int)) (b := 1) ((i : Int) + 1) E E (by omega)) (r (sa E) (re ?_))))
             exact ag (i + 1) ⟨z9,z10,z11,z14,E,H8,by omega⟩ (by first | omega | (dsimp only; omega))
            ·refine sk (be ?_)
             refine gen (fun ρ=>ρ 9 = o2∧ρ 10=.int .i64 nn∧ρ 11 = rfl_∧ρ 14=.int .i64 ((freeN t i).length : Int)∧ρ 15=.int .i64 (i : Int)∧True) ⟨y9,y10,y11,y14,y15,trivial⟩ ?_
             rintro ρ ⟨z9, z10, z11, z14, z15, -⟩
             refine rg (r (mv z15) (r (ad (a := (i : Int)) (b := 1) ((i : Int) + 1) E E (by omega)) (r (sa E) (re ?_))))
             rw [← freeN_no hi3 hz] at z14
             exact ag (i + 1) ⟨z9,z10,z11,z14,E,H8,by omega⟩ (by first | omega | (dsimp only; omega))
           ·refine ex E (sq (rg (r (sa E) (re (rt ?_)))))
            exact fin1 (v := .bool true) Try.results10 E ⟨E,Hold.ch H8⟩
          ·refine gn E E E (gn E E E (gn E E E (r (pk E E) (re (cf E (ex E (sq (rg (r (sa E) (re (rt ?_)))))))))))
           exact fin1 (v := .bool true) Try.results10 E ⟨E,Hold.ch H8⟩
   ·have hvv := hVn
    simp only [decide_eq_true_eq] at hfp
    obtain ⟨_, R3⟩ : ∃ F, Kd.R i64 wd F o1 cs := Hold.row H1 0 rfl
    refine cl go28 (impl_PickVictim R3 (by omega)) (ac E (ac E (ac E an))) ?_
    rintro rp wp ⟨er, cp1⟩
    rw [hV] at er
    subst er
    have H2 : Hold w [] wp [rR i64 2 o1 cs] := Hold.t H1 cp1
    clear H1
    clear cp1
    obtain ⟨_, R5⟩ : ∃ F, Kd.R i64 wp F o1 cs := Hold.row H2 0 rfl
    refine r (sa E) (re (sq (rg (r (mv z3) (r (mv z4) (cl go25 (impl_FreeSegment R5 (by omega)) (ac E (ac E an)) ?_))))))
    rintro rs wsg ⟨er2, cp2⟩
    rw [hW] at er2
    subst er2
    have H3 : Hold w [] wsg [rR i64 2 o1 cs] := Hold.t H2 cp2
    clear H2
    clear cp2
    refine r (sa E) (re (sq (sq (rg (r (mv E) (r (bi E E E) (r (mv E) ?_)))))))
    refine spf 34 E (show (decide ((-1 : Int) < (-1))) = false from (by decide)) ?_
    obtain ⟨_, R6⟩ : ∃ F, Kd.R i64 wsg F o1 cs := Hold.row H3 0 rfl
    refine gy E E E (r (mv E) (gy E E E (r (mv z3) (gy E E E (r (ln Try.underlying22 E (R6)) (gy E E E (r (bi E E E) (r (pk E E) (r (mv E) ?_)))))))))
    refine sp 40 E (fun k12 => ?_) (fun k12 => ?_)
    ·refine gn E E E (gn E E E (r (pk E E) (r (mv E) (gn E E E (gn E E E (gn E E E (gn E E E (r (pk E E) (re (ct E (sq ?_)))))))))))
     refine gen (fun ρ=>ρ 0 = v∧ρ 2=.bool false∧ρ 3 = o1∧ρ 4=.int .i64 aq∧ρ 5=.int .i64 mz∧ρ 6=.int .i64 (-1)∧ρ 7=.int .i64 (f : Int)∧True) ⟨z0,z2,z3,z4,z5,E,E,trivial⟩ ?_
     rintro ρ ⟨z0, z2, z3, z4, z5, z6, z7, -⟩
     refine rg (r (sa E) (re (rt ?_)))
     exfalso; omega
    ·refine gy E E E (r (mv E) (gy E E E (r (bi E E E) (r (pk E E) (r (mv E) ?_)))))
     refine spf 44 E (show (decide ((f : Int) < (-1))) = false from (decide_eq_false (by omega))) ?_
     refine gy E E E (r (mv E) (gy E E E (r (mv z3) (gy E E E (r (ln Try.underlying22 E (R6)) (gy E E E (r (bi E E E) (r (pk E E) (re ?_)))))))))
     refine cf ((E : _ = Value.bool (decide ((cs.length : Int) ≤ (f : Int)))).trans (congrArg Value.bool (show (decide ((cs.length : Int) ≤ (f : Int))) = false from (decide_eq_false (by omega))))) ?_
     refine sk (sq (sq ?_))
     refine gen (fun ρ=>ρ 0 = v∧ρ 2=.bool false∧ρ 3 = o1∧ρ 4=.int .i64 aq∧ρ 5=.int .i64 mz∧ρ 6=.int .i64 (-1)∧ρ 7=.int .i64 (f : Int)∧True) ⟨z0,z2,z3,z4,z5,E,E,trivial⟩ ?_
     rintro ρ ⟨z0, z2, z3, z4, z5, z6, z7, -⟩
     refine rg (r (mv z6) (r (bi E E E) (r (mv E) ?_)))
     refine spf 52 E (show (decide (0 ≤ (-1 : Int))) = false from (by decide)) ?_
     refine gn E E E (gn E E E (gn E E E (gn E E E (gu E E E (gu E E E (gu E E E (gu E E E (gu E E E (gn E E E (gn E E E (gu E E E (gu E E E (gu E E E (gu E E E (gu E E E (gu E E E (gn E E E (r (pk E E) (r (mv E) (gy E E E (r (mv z7) (gy E E E (r (bi E E E) (gy E E E (r (mv E) ?_)))))))))))))))))))))))))
     refine sp 75 E (fun k13 => ?_) (fun k13 => ?_)
     ·refine gy E E E (r (mv z7) (gy E E E (r (mv z4) (gy E E E (r (bi E E E) (gy E E E (r (mv E) ?_)))))))
      refine spf 79 E (show (decide ((f : Int) = aq)) = false from (decide_eq_false (by omega))) ?_
      refine gy E E E (r (mv z3) (gy E E E (r (mv z7) (gy E E E ?_))))
      obtain ⟨c82_7, ad82_7, k82_7, e82_7, p82_7⟩ := Kd.R.place R6 f (hf)
      refine r (ix (j := f) Try.underlying22 ti2 e82_7 E (hf)) (gy E E E (r (ld Try.underlying2 E E p82_7.cell) (gy E E E (r (bi E E E) (gy E E E (r (pk E E) (gy E E E (r (pk E E) (r (pk E E) (re ?_))))))))))
      refine cf ((E : _ = Value.bool (!decide ((cs[f]) = 0))).trans (congrArg Value.bool (show (!decide ((cs[f]) = 0)) = false from (by rw [decide_eq_true (by omega)]; rfl)))) ?_
      refine sk (sq (sq ?_))
      refine gen (fun ρ=>ρ 0 = v∧ρ 2=.bool false∧ρ 3 = o1∧ρ 4=.int .i64 aq∧ρ 5=.int .i64 mz∧ρ 6=.int .i64 (-1)∧ρ 7=.int .i64 (f : Int)∧True) ⟨z0,z2,z3,z4,z5,z6,z7,trivial⟩ ?_
      rintro ρ ⟨z0, z2, z3, z4, z5, z6, z7, -⟩
      refine rg (r (sa E) (re (bl ?_)))
      refine lp (α := Nat) (fun i ρ w' => ρ 0 = v∧ρ 3 = o1∧ρ 4=.int .i64 aq∧ρ 5=.int .i64 mz∧ρ 6=.int .i64 (-1)∧ρ 7=.int .i64 (f : Int)∧ρ 8=.int .i64 (i : Int)∧Hold w [] w' [rR i64 2 o1 cs]∧i ≤ cs.length) (fun i => cs.length - i) 0 ?_ ?_
      ·exact ⟨z0,z3,z4,z5,z6,z7,E,H3,by omega⟩
      clear H3
      rintro i ρ w504 ⟨y0, y3, y4, y5, y6, y7, y8, H4, hi⟩
      obtain ⟨_, R8⟩ : ∃ F, Kd.R i64 w504 F o1 cs := Hold.row H4 0 rfl
      refine sq (sq (rg (r (mv y8) (r (mv y3) (r (ln Try.underlying22 E (R8)) (r (bi E E E) (re ?_)))))))
      refine cp E (fun hlt => ?_) (fun hlt => ?_)
      ·have hi' : i < cs.length := by omega
       have hvi : ¬ (i : Int) = aq → ¬ (1 ≤ cs[i] ∧ cs[i] < mz) := fun h => by rw [← inside_iff, hVn i hi' h]; simp
       have hwi := hfm i hi'
       simp only [decide_eq_true_eq] at hwi
       refine sk (sq (bl (sq (sq (rg (r (mv y8) (r (mv y4) (r (bi E E E) (r (mv E) ?_)))))))))
       refine spn 97 E (fun k14 => ?_) (fun k14 => ?_)
       ·refine gy E E E (r (mv y3) (gy E E E (r (mv y8) (gy E E E ?_))))
        obtain ⟨c100_9, ad100_9, k100_9, e100_9, p100_9⟩ := Kd.R.place R8 i (hi')
        refine r (ix (j := i) Try.underlying22 ti2 e100_9 E (hi')) (gy E E E (r (ld Try.underlying2 E E p100_9.cell) (gy E E E (r (bi E E E) (r (pk E E) (r (mv E) ?_))))))
        refine sp 104 E (fun k15 => ?_) (fun k15 => ?_)
        ·refine gy E E E (r (mv y3) (gy E E E (r (mv y8) (gy E E E ?_))))
         obtain ⟨c107_10, ad107_10, k107_10, e107_10, p107_10⟩ := Kd.R.place R8 i (hi')
         refine r (ix (j := i) Try.underlying22 ti2 e107_10 E (hi')) (gy E E E (r (ld Try.underlying2 E E p107_10.cell) (gy E E E (r (mv y5) (gy E E E (r (bi E E E) (r (pk E E) (r (mv E) ?_))))))))
         refine sp 112 E (fun k16 => ?_) (fun k16 => ?_)
         ·refine gy E E E (r (mv y8) (gy E E E (r (mv y6) (gy E E E (r (bi E E E) (r (pk E E) (re ?_)))))))
          exfalso; omega
         ·refine gn E E E (gn E E E (gn E E E (r (pk E E) (re (cf E (sk (sq ?_)))))))
          refine gen (fun ρ=>ρ 0 = v∧ρ 3 = o1∧ρ 4=.int .i64 aq∧ρ 5=.int .i64 mz∧ρ 6=.int .i64 (-1)∧ρ 7=.int .i64 (f : Int)∧ρ 8=.int .i64 (i : Int)∧True) ⟨y0,y3,y4,y5,y6,y7,y8,trivial⟩ ?_
          rintro ρ ⟨z0, z3, z4, z5, z6, z7, z8, -⟩
          refine rg (r (mv z8) (r (mv z4) (r (bi E E E) (r (mv E) ?_))))
          refine spn 149 E (fun k17 => ?_) (fun k17 => ?_)
          ·refine gy E E E (r (mv z3) (gy E E E (r (mv z8) (gy E E E ?_))))
           obtain ⟨c152_11, ad152_11, k152_11, e152_11, p152_11⟩ := Kd.R.place R8 i (hi')
           refine r (ix (j := i) Try.underlying22 ti2 e152_11 E (hi')) (gy E E E (r (ld Try.underlying2 E E p152_11.cell) (gy E E E (r (bi E E E) (r (pk E E) (r (mv E) ?_))))))
           refine sp 156 E (fun k18 => ?_) (fun k18 => ?_)
           ·refine gy E E E (r (mv z7) (gy E E E (r (bi E E E) (gy E E E (r (mv E) ?_)))))
            refine spf 159 E (show (decide ((f : Int) < 0)) = false from (decide_eq_false (by omega))) ?_
            refine gy E E E (r (mv z8) (gy E E E (r (mv z7) (gy E E E (r (bi E E E) (gy E E E (r (pk E E) (r (pk E E) (re ?_)))))))))
            refine cf ((E : _ = Value.bool (decide ((i : Int) < (f : Int)))).trans (congrArg Value.bool (show (decide ((i : Int) < (f : Int))) = false from (decide_eq_false (by omega))))) ?_
            refine sk (be ?_)
            refine gen (fun ρ=>ρ 0 = v∧ρ 3 = o1∧ρ 4=.int .i64 aq∧ρ 5=.int .i64 mz∧ρ 6=.int .i64 (-1)∧ρ 7=.int .i64 (f : Int)∧ρ 8=.int .i64 (i : Int)∧True) ⟨z0,z3,z4,z5,z6,z7,z8,trivial⟩ ?_
            rintro ρ ⟨z0, z3, z4, z5, z6, z7, z8, -⟩
            refine rg (r (mv z8) (r (ad (a := (i : Int)) (b := 1) ((i : Int) + 1) E E (by omega)) (r (sa E) (re ?_))))
            exact ag (i + 1) ⟨z0,z3,z4,z5,z6,z7,E,H4,by omega⟩ (by first | omega | (dsimp only; omega))
           ·refine gn E E E (gn E E E (gn E E E (gu E E E (gu E E E (gu E E E (gn E E E (r (pk E E) (re (cf E (sk (be ?_)))))))))))
            refine gen (fun ρ=>ρ 0 = v∧ρ 3 = o1∧ρ 4=.int .i64 aq∧ρ 5=.int .i64 mz∧ρ 6=.int .i64 (-1)∧ρ 7=.int .i64 (f : Int)∧ρ 8=.int .i64 (i : Int)∧True) ⟨z0,z3,z4,z5,z6,z7,z8,trivial⟩ ?_
            rintro ρ ⟨z0, z3, z4, z5, z6, z7, z8, -⟩
            refine rg (r (mv z8) (r (ad (a := (i : Int)) (b := 1) ((i : Int) + 1) E E (by omega)) (r (sa E) (re ?_))))
            exact ag (i + 1) ⟨z0,z3,z4,z5,z6,z7,E,H4,by omega⟩ (by first | omega | (dsimp only; omega))
          ·refine gn E E E (gn E E E (gn E E E (gn E E E (gn E E E (r (pk E E) (r (mv E) (gn E E E (gn E E E (gn E E E (gu E E E (gu E E E (gu E E E (gn E E E (r (pk E E) (re (cf E (sk (be ?_))))))))))))))))))
           refine gen (fun ρ=>ρ 0 = v∧ρ 3 = o1∧ρ 4=.int .i64 aq∧ρ 5=.int .i64 mz∧ρ 6=.int .i64 (-1)∧ρ 7=.int .i64 (f : Int)∧ρ 8=.int .i64 (i : Int)∧True) ⟨z0,z3,z4,z5,z6,z7,z8,trivial⟩ ?_
           rintro ρ ⟨z0, z3, z4, z5, z6, z7, z8, -⟩
           refine rg (r (mv z8) (r (ad (a := (i : Int)) (b := 1) ((i : Int) + 1) E E (by omega)) (r (sa E) (re ?_))))
           exact ag (i + 1) ⟨z0,z3,z4,z5,z6,z7,E,H4,by omega⟩ (by first | omega | (dsimp only; omega))
        ·refine gn E E E (gn E E E (gn E E E (gn E E E (gn E E E (gn E E E (r (pk E E) (r (mv E) (gn E E E (gn E E E (gn E E E (r (pk E E) (re (cf E (sk (sq ?_)))))))))))))))
         refine gen (fun ρ=>ρ 0 = v∧ρ 3 = o1∧ρ 4=.int .i64 aq∧ρ 5=.int .i64 mz∧ρ 6=.int .i64 (-1)∧ρ 7=.int .i64 (f : Int)∧ρ 8=.int .i64 (i : Int)∧True) ⟨y0,y3,y4,y5,y6,y7,y8,trivial⟩ ?_
         rintro ρ ⟨z0, z3, z4, z5, z6, z7, z8, -⟩
         refine rg (r (mv z8) (r (mv z4) (r (bi E E E) (r (mv E) ?_))))
         refine spn 149 E (fun k19 => ?_) (fun k19 => ?_)
         ·refine gy E E E (r (mv z3) (gy E E E (r (mv z8) (gy E E E ?_))))
          obtain ⟨c152_10, ad152_10, k152_10, e152_10, p152_10⟩ := Kd.R.place R8 i (hi')
          refine r (ix (j := i) Try.underlying22 ti2 e152_10 E (hi')) (gy E E E (r (ld Try.underlying2 E E p152_10.cell) (gy E E E (r (bi E E E) (r (pk E E) (r (mv E) ?_))))))
          refine sp 156 E (fun k20 => ?_) (fun k20 => ?_)
          ·refine gy E E E (r (mv z7) (gy E E E (r (bi E E E) (gy E E E (r (mv E) ?_)))))
           refine spf 159 E (show (decide ((f : Int) < 0)) = false from (decide_eq_false (by omega))) ?_
           refine gy E E E (r (mv z8) (gy E E E (r (mv z7) (gy E E E (r (bi E E E) (gy E E E (r (pk E E) (r (pk E E) (re ?_)))))))))
           refine cf ((E : _ = Value.bool (decide ((i : Int) < (f : Int)))).trans (congrArg Value.bool (show (decide ((i : Int) < (f : Int))) = false from (decide_eq_false (by omega))))) ?_
           refine sk (be ?_)
           refine gen (fun ρ=>ρ 0 = v∧ρ 3 = o1∧ρ 4=.int .i64 aq∧ρ 5=.int .i64 mz∧ρ 6=.int .i64 (-1)∧ρ 7=.int .i64 (f : Int)∧ρ 8=.int .i64 (i : Int)∧True) ⟨z0,z3,z4,z5,z6,z7,z8,trivial⟩ ?_
           rintro ρ ⟨z0, z3, z4, z5, z6, z7, z8, -⟩
           refine rg (r (mv z8) (r (ad (a := (i : Int)) (b := 1) ((i : Int) + 1) E E (by omega)) (r (sa E) (re ?_))))
           exact ag (i + 1) ⟨z0,z3,z4,z5,z6,z7,E,H4,by omega⟩ (by first | omega | (dsimp only; omega))
          ·refine gn E E E (gn E E E (gn E E E (gu E E E (gu E E E (gu E E E (gn E E E (r (pk E E) (re (cf E (sk (be ?_)))))))))))
           refine gen (fun ρ=>ρ 0 = v∧ρ 3 = o1∧ρ 4=.int .i64 aq∧ρ 5=.int .i64 mz∧ρ 6=.int .i64 (-1)∧ρ 7=.int .i64 (f : Int)∧ρ 8=.int .i64 (i : Int)∧True) ⟨z0,z3,z4,z5,z6,z7,z8,trivial⟩ ?_
           rintro ρ ⟨z0, z3, z4, z5, z6, z7, z8, -⟩
           refine rg (r (mv z8) (r (ad (a := (i : Int)) (b := 1) ((i : Int) + 1) E E (by omega)) (r (sa E) (re ?_))))
           exact ag (i + 1) ⟨z0,z3,z4,z5,z6,z7,E,H4,by omega⟩ (by first | omega | (dsimp only; omega))
         ·refine gn E E E (gn E E E (gn E E E (gn E E E (gn E E E (r (pk E E) (r (mv E) (gn E E E (gn E E E (gn E E E (gu E E E (gu E E E (gu E E E (gn E E E (r (pk E E) (re (cf E (sk (be ?_))))))))))))))))))
          refine gen (fun ρ=>ρ 0 = v∧ρ 3 = o1∧ρ 4=.int .i64 aq∧ρ 5=.int .i64 mz∧ρ 6=.int .i64 (-1)∧ρ 7=.int .i64 (f : Int)∧ρ 8=.int .i64 (i : Int)∧True) ⟨z0,z3,z4,z5,z6,z7,z8,trivial⟩ ?_
          rintro ρ ⟨z0, z3, z4, z5, z6, z7, z8, -⟩
          refine rg (r (mv z8) (r (ad (a := (i : Int)) (b := 1) ((i : Int) + 1) E E (by omega)) (r (sa E) (re ?_))))
          exact ag (i + 1) ⟨z0,z3,z4,z5,z6,z7,E,H4,by omega⟩ (by first | omega | (dsimp only; omega))
       ·refine gn E E E (gn E E E (gn E E E (gn E E E (gn E E E (r (pk E E) (r (mv E) (gn E E E (gn E E E (gn E E E (gn E E E (gn E E E (gn E E E (r (pk E E) (r (mv E) (gn E E E (gn E E E (gn E E E (r (pk E E) (re (cf E (sk (sq ?_))))))))))))))))))))))
        refine gen (fun ρ=>ρ 0 = v∧ρ 3 = o1∧ρ 4=.int .i64 aq∧ρ 5=.int .i64 mz∧ρ 6=.int .i64 (-1)∧ρ 7=.int .i64 (f : Int)∧ρ 8=.int .i64 (i : Int)∧True) ⟨y0,y3,y4,y5,y6,y7,y8,trivial⟩ ?_
        rintro ρ ⟨z0, z3, z4, z5, z6, z7, z8, -⟩
        refine rg (r (mv z8) (r (mv z4) (r (bi E E E) (r (mv E) ?_))))
        refine spn 149 E (fun k21 => ?_) (fun k21 => ?_)
        ·refine gy E E E (r (mv z3) (gy E E E (r (mv z8) (gy E E E ?_))))
         obtain ⟨c152_9, ad152_9, k152_9, e152_9, p152_9⟩ := Kd.R.place R8 i (hi')
         refine r (ix (j := i) Try.underlying22 ti2 e152_9 E (hi')) (gy E E E (r (ld Try.underlying2 E E p152_9.cell) (gy E E E (r (bi E E E) (r (pk E E) (r (mv E) ?_))))))
         refine sp 156 E (fun k22 => ?_) (fun k22 => ?_)
         ·refine gy E E E (r (mv z7) (gy E E E (r (bi E E E) (gy E E E (r (mv E) ?_)))))
          refine spf 159 E (show (decide ((f : Int) < 0)) = false from (decide_eq_false (by omega))) ?_
          refine gy E E E (r (mv z8) (gy E E E (r (mv z7) (gy E E E (r (bi E E E) (gy E E E (r (pk E E) (r (pk E E) (re ?_)))))))))
          refine cf ((E : _ = Value.bool (decide ((i : Int) < (f : Int)))).trans (congrArg Value.bool (show (decide ((i : Int) < (f : Int))) = false from (decide_eq_false (by omega))))) ?_
          refine sk (be ?_)
          refine gen (fun ρ=>ρ 0 = v∧ρ 3 = o1∧ρ 4=.int .i64 aq∧ρ 5=.int .i64 mz∧ρ 6=.int .i64 (-1)∧ρ 7=.int .i64 (f : Int)∧ρ 8=.int .i64 (i : Int)∧True) ⟨z0,z3,z4,z5,z6,z7,z8,trivial⟩ ?_
          rintro ρ ⟨z0, z3, z4, z5, z6, z7, z8, -⟩
          refine rg (r (mv z8) (r (ad (a := (i : Int)) (b := 1) ((i : Int) + 1) E E (by omega)) (r (sa E) (re ?_))))
          exact ag (i + 1) ⟨z0,z3,z4,z5,z6,z7,E,H4,by omega⟩ (by first | omega | (dsimp only; omega))
         ·refine gn E E E (gn E E E (gn E E E (gu E E E (gu E E E (gu E E E (gn E E E (r (pk E E) (re (cf E (sk (be ?_)))))))))))
          refine gen (fun ρ=>ρ 0 = v∧ρ 3 = o1∧ρ 4=.int .i64 aq∧ρ 5=.int .i64 mz∧ρ 6=.int .i64 (-1)∧ρ 7=.int .i64 (f : Int)∧ρ 8=.int .i64 (i : Int)∧True) ⟨z0,z3,z4,z5,z6,z7,z8,trivial⟩ ?_
          rintro ρ ⟨z0, z3, z4, z5, z6, z7, z8, -⟩
          refine rg (r (mv z8) (r (ad (a := (i : Int)) (b := 1) ((i : Int) + 1) E E (by omega)) (r (sa E) (re ?_))))
          exact ag (i + 1) ⟨z0,z3,z4,z5,z6,z7,E,H4,by omega⟩ (by first | omega | (dsimp only; omega))
        ·refine gn E E E (gn E E E (gn E E E (gn E E E (gn E E E (r (pk E E) (r (mv E) (gn E E E (gn E E E (gn E E E (gu E E E (gu E E E (gu E E E (gn E E E (r (pk E E) (re (cf E (sk (be ?_))))))))))))))))))
         refine gen (fun ρ=>ρ 0 = v∧ρ 3 = o1∧ρ 4=.int .i64 aq∧ρ 5=.int .i64 mz∧ρ 6=.int .i64 (-1)∧ρ 7=.int .i64 (f : Int)∧ρ 8=.int .i64 (i : Int)∧True) ⟨z0,z3,z4,z5,z6,z7,z8,trivial⟩ ?_
         rintro ρ ⟨z0, z3, z4, z5, z6, z7, z8, -⟩
         refine rg (r (mv z8) (r (ad (a := (i : Int)) (b := 1) ((i : Int) + 1) E E (by omega)) (r (sa E) (re ?_))))
         exact ag (i + 1) ⟨z0,z3,z4,z5,z6,z7,E,H4,by omega⟩ (by first | omega | (dsimp only; omega))
      ·refine ex E (sq (rg (r (mv y0) (cl go55 (DrawFreeLids (hx.t (Hold.ch H4)) lv ok) (ac E an) ?_))))
       rintro rtv wd2 ⟨t, nn, o2, rfl, ht, Hd2⟩
       have H5 : Hold w [] wd2 [rR i64 2 o1 cs, rR kE 70 o2 t] := Hold.news H4 Hd2
       clear H4
       clear Hd2
       refine r (mv E) (r (xt E E) (r (xt E E) (r (sa E) (r (sa E) (re (sq ?_))))))
       refine gen (fun ρ=>ρ 9 = o2∧ρ 10=.int .i64 nn∧True) ⟨E,E,trivial⟩ ?_
       rintro ρ ⟨z9, z10, -⟩
       obtain ⟨_, R11⟩ : ∃ F, Kd.R kE wd2 F o2 t := Hold.row H5 1 rfl
       refine rg (r (mv z9) (r (mv z10) (cl go47 (impl_FreeLids R11 (by omega)) (ac E (ac E an)) ?_)))
       rintro rfl_ wfl ⟨efl, Hfl⟩
       have H6 : Hold w [] wfl [rR i64 2 o1 cs, rR kE 70 o2 t, rR i64 efl rfl_ (flD t nn)] := Hold.news H5 Hfl
       clear H5
       clear Hfl
       refine r (sa E) (re (sq (rg (r (sa E) (re (sq (sq (rg (r (sa E) (re (bl ?_)))))))))))
       refine lp (α := Nat) (fun i ρ w' => ρ 9 = o2∧ρ 10=.int .i64 nn∧ρ 11 = rfl_∧ρ 12=.int .i64 ((freeN t i).length : Int)∧ρ 13=.int .i64 (i : Int)∧Hold w [] w' [rR i64 2 o1 cs,rR kE 70 o2 t,rR i64 efl rfl_ (flD t nn)]∧i ≤ t.length) (fun i => t.length - i) 0 ?_ ?_
       ·exact ⟨z9,z10,E,E,E,H6,by omega⟩
       clear H6
       rintro i ρ w507 ⟨y9, y10, y11, y12, y13, H7, hi2⟩
       obtain ⟨_, R12⟩ : ∃ F, Kd.R kE w507 F o2 t := Hold.row H7 1 rfl
       refine sq (sq (rg (r (mv y13) (r (mv y9) (r (ln Try.underlying57 E (R12)) (r (bi E E E) (re ?_)))))))
       refine cp E (fun hlt2 => ?_) (fun hlt2 => ?_)
       ·have hi3 : i < t.length := by omega
        have hfl := freeN_len t i
        refine sk (sq (bl (sq (rg (r (mv y9) (r (mv y13) ?_))))))
        obtain ⟨c181_13, ad181_13, k181_13, e181_13, p181_13⟩ := Kd.R.place R12 i (hi3)
        have q181_13 := en_at p181_13
        refine r (ix (j := i) Try.underlying57 ti70 e181_13 E (hi3)) (r (fa' Try.underlying70 E ti2 E E) (r (ld Try.underlying2 E E (q181_13 0 _ E)) (r (bi E E E) (re ?_))))
        refine cp E (fun hz => ?_) (fun hz => ?_)
        ·refine gen (fun ρ=>ρ 9 = o2∧ρ 10=.int .i64 nn∧ρ 11 = rfl_∧ρ 12=.int .i64 ((freeN t i).length : Int)∧ρ 13=.int .i64 (i : Int)∧True) ⟨y9,y10,y11,y12,y13,trivial⟩ ?_
         rintro ρ ⟨z9, z10, z11, z12, z13, -⟩
         refine rg (r (mv z12) (r (ad (a := ((freeN t i).length : Int)) (b := 1) (((freeN t (i + 1)).length : Int)) E E (by rw [freeN_yes hi3 hz]; simp; omega)) (r (sa E) (re (be (rg (r (mv z13) (r (ad (a := (i : Int)) (b := 1) ((i : Int) + 1) E E (by omega)) (r (sa E) (re ?_))))))))))
         exact ag (i + 1) ⟨z9,z10,z11,E,E,H7,by omega⟩ (by first | omega | (dsimp only; omega))
        ·refine sk (be ?_)
         refine gen (fun ρ=>ρ 9 = o2∧ρ 10=.int .i64 nn∧ρ 11 = rfl_∧ρ 12=.int .i64 ((freeN t i).length : Int)∧ρ 13=.int .i64 (i : Int)∧True) ⟨y9,y10,y11,y12,y13,trivial⟩ ?_
         rintro ρ ⟨z9, z10, z11, z12, z13, -⟩
         refine rg (r (mv z13) (r (ad (a := (i : Int)) (b := 1) ((i : Int) + 1) E E (by omega)) (r (sa E) (re ?_))))
         rw [← freeN_no hi3 hz] at z12
         exact ag (i + 1) ⟨z9,z10,z11,z12,E,H7,by omega⟩ (by first | omega | (dsimp only; omega))
       ·obtain rfl : i = t.length := by omega
        refine ex E (sq (sq (rg (r (mv y10) (r (bi E E E) (r (mv E) ?_))))))
        refine sp 189 E (fun hn1 => ?_) (fun hn1 => ?_)
        ·refine gn E E E (gn E E E (gn E E E (r (pk E E) (re (ct E (sq ?_))))))
         refine gen (fun ρ=>ρ 9 = o2∧ρ 10=.int .i64 nn∧ρ 11 = rfl_∧True) ⟨y9,y10,y11,trivial⟩ ?_
         rintro ρ ⟨z9, z10, z11, -⟩
         obtain ⟨_, R13⟩ : ∃ F, Kd.R i64 w507 F rfl_ (flD t nn) := Hold.row H7 2 rfl
         refine rg (r (mv z11) (r (ln Try.underlying22 E (R13)) (r (bi E E E) (r (sa E) (re (rt ?_))))))
         exact fin1 (v := .bool (decide (((flD t nn).length : Int) = 0))) Try.results10 E ⟨congrArg Value.bool (by rw [flD_nil (.inl hn1)]; simp),Hold.ch H7⟩
        ·refine gy E E E (r (mv y10) (gy E E E (r (mv y12) (gy E E E (r (bi E E E) (r (pk E E) (re ?_)))))))
         refine cp E (fun hn2 => ?_) (fun hn2 => ?_)
         ·refine sq ?_
          refine gen (fun ρ=>ρ 9 = o2∧ρ 10=.int .i64 nn∧ρ 11 = rfl_∧True) ⟨y9,y10,y11,trivial⟩ ?_
          rintro ρ ⟨z9, z10, z11, -⟩
          obtain ⟨_, R13⟩ : ∃ F, Kd.R i64 w507 F rfl_ (flD t nn) := Hold.row H7 2 rfl
          refine rg (r (mv z11) (r (ln Try.underlying22 E (R13)) (r (bi E E E) (r (sa E) (re (rt ?_))))))
          exact fin1 (v := .bool (decide (((flD t nn).length : Int) = 0))) Try.results10 E ⟨congrArg Value.bool (by rw [flD_nil (.inr (by omega))]; simp),Hold.ch H7⟩
         ·obtain ⟨hF1, hF2⟩ := flD_full (t := t) (n := nn) (by omega) (by omega)
          refine sk (sq (sq ?_))
          refine gen (fun ρ=>ρ 9 = o2∧ρ 10=.int .i64 nn∧ρ 11 = rfl_∧True) ⟨y9,y10,y11,trivial⟩ ?_
          rintro ρ ⟨z9, z10, z11, -⟩
          obtain ⟨_, R13⟩ : ∃ F, Kd.R i64 w507 F rfl_ (flD t nn) := Hold.row H7 2 rfl
          refine rg (r (mv z11) (r (ln Try.underlying22 E (R13)) (r (mv z10) (r (bi E E E) (re ?_)))))
          refine cf ((E : _ = Value.bool (!decide (((flD t nn).length : Int) = nn))).trans (congrArg Value.bool (show (!decide (((flD t nn).length : Int) = nn)) = false from (by rw [decide_eq_true hF1]; rfl)))) ?_
          refine sk (sq (rg (r (sa E) (re (sq (sq (rg (r (sa E) (re (bl ?_))))))))))
          refine lp (α := Nat) (fun i ρ w' => ρ 9 = o2∧ρ 10=.int .i64 nn∧ρ 11 = rfl_∧ρ 14=.int .i64 ((freeN t i).length : Int)∧ρ 15=.int .i64 (i : Int)∧Hold w [] w' [rR i64 2 o1 cs,rR kE 70 o2 t,rR i64 efl rfl_ (flD t nn)]∧i ≤ t.length) (fun i => t.length - i) 0 ?_ ?_
          ·exact ⟨z9,z10,z11,E,E,H7,by omega⟩
          clear H7
          rintro i ρ w508 ⟨y9, y10, y11, y14, y15, H8, hi2⟩
          obtain ⟨_, R14⟩ : ∃ F, Kd.R kE w508 F o2 t := Hold.row H8 1 rfl
          refine sq (sq (rg (r (mv y15) (r (mv y9) (r (ln Try.underlying57 E (R14)) (r (bi E E E) (r (mv E) ?_)))))))
          refine sp 205 E (fun hm1 => ?_) (fun hm1 => ?_)
          ·refine gy E E E (r (mv y14) (gy E E E (r (mv y10) (gy E E E (r (bi E E E) (r (pk E E) (re ?_)))))))
           refine cp E (fun hm2 => ?_) (fun hm2 => ?_)
           ·have hi3 : i < t.length := by omega
            have hfl := freeN_len t i
            refine sk (sq (bl (sq (rg (r (mv y9) (r (mv y15) ?_))))))
            obtain ⟨c214_15, ad214_15, k214_15, e214_15, p214_15⟩ := Kd.R.place R14 i (hi3)
            have q214_15 := en_at p214_15
            refine r (ix (j := i) Try.underlying57 ti70 e214_15 E (hi3)) (r (fa' Try.underlying70 E ti2 E E) (r (ld Try.underlying2 E E (q214_15 0 _ E)) (r (bi E E E) (re ?_))))
            refine cp E (fun hz => ?_) (fun hz => ?_)
            ·have hkl : (freeN t i).length < (flD t nn).length := by omega
             have hAt : (flD t nn)[(freeN t i).length] = (i : Int) + 1 := by
              have h9 := (hF2 _ hm2).trans (freeN_at hi3 hz)
              rw [List.getElem?_eq_getElem hkl] at h9; exact Option.some.inj h9
             obtain ⟨kk, hkk⟩ : ∃ k, k = (freeN t i).length := ⟨_, rfl⟩
             refine sq (sq ?_)
             refine gen (fun ρ=>ρ 9 = o2∧ρ 10=.int .i64 nn∧ρ 11 = rfl_∧ρ 14=.int .i64 ((freeN t i).length : Int)∧ρ 15=.int .i64 (i : Int)∧True) ⟨y9,y10,y11,y14,y15,trivial⟩ ?_
             rintro ρ ⟨z9, z10, z11, z14, z15, -⟩
             obtain ⟨_, R16⟩ : ∃ F, Kd.R i64 w508 F rfl_ (flD t nn) := Hold.row H8 2 rfl
             refine rg (r (mv z11) (r (mv z14) ?_))
             obtain ⟨c220_17, ad220_17, k220_17, e220_17, p220_17⟩ := Kd.R.place R16 ((freeN t i).length) (hkl)
             refine r (ix (j := (freeN t i).length) Try.underlying22 ti2 e220_17 E (hkl)) (r (ld Try.underlying2 E E p220_17.cell) (r (mv z15) (r (ad (a := (i : Int)) (b := 1) ((i : Int) + 1) E E (by omega)) (r (bi E E E) (re ?_)))))
             refine cf ((E : _ = Value.bool (!decide (((flD t nn)[(freeN t i).length]) = ((i : Int) + 1)))).trans (congrArg Value.bool (show (!decide (((flD t nn)[(freeN t i).length]) = ((i : Int) + 1))) = false from (by rw [decide_eq_true hAt]; rfl)))) ?_
             refine sk (rg (r (mv z14) (r (ad (a := ((freeN t i).length : Int)) (b := 1) (((freeN t (i + 1)).length : Int)) E E (by rw [freeN_yes hi3 hz]; simp; omega)) (r (sa E) (re (be ?_))))))
             refine gen (fun ρ=>ρ 9 = o2∧ρ 10=.int .i64 nn∧ρ 11 = rfl_∧ρ 14=.int .i64 ((freeN t (i + 1)).length : Int)∧ρ 15=.int .i64 (i : Int)∧True) ⟨z9,z10,z11,E,z15,trivial⟩ ?_
             rintro ρ ⟨z9, z10, z11, z14, z15, -⟩
             refine rg (r (mv z15) (r (ad (a := (i : Int)) (b := 1) ((i : Int) + 1) E E (by omega)) (r (sa E) (re ?_))))
             exact ag (i + 1) ⟨z9,z10,z11,z14,E,H8,by omega⟩ (by first | omega | (dsimp only; omega))
            ·refine sk (be ?_)
             refine gen (fun ρ=>ρ 9 = o2∧ρ 10=.int .i64 nn∧ρ 11 = rfl_∧ρ 14=.int .i64 ((freeN t i).length : Int)∧ρ 15=.int .i64 (i : Int)∧True) ⟨y9,y10,y11,y14,y15,trivial⟩ ?_
             rintro ρ ⟨z9, z10, z11, z14, z15, -⟩
             refine rg (r (mv z15) (r (ad (a := (i : Int)) (b := 1) ((i : Int) + 1) E E (by omega)) (r (sa E) (re ?_))))
             rw [← freeN_no hi3 hz] at z14
             exact ag (i + 1) ⟨z9,z10,z11,z14,E,H8,by omega⟩ (by first | omega | (dsimp only; omega))
           ·refine ex E (sq (rg (r (sa E) (re (rt ?_)))))
            exact fin1 (v := .bool true) Try.results10 E ⟨E,Hold.ch H8⟩
          ·refine gn E E E (gn E E E (gn E E E (r (pk E E) (re (cf E (ex E (sq (rg (r (sa E) (re (rt ?_)))))))))))
           exact fin1 (v := .bool true) Try.results10 E ⟨E,Hold.ch H8⟩
     ·refine gn E E E (gn E E E (gn E E E (gn E E E (gu E E E (gu E E E (gu E E E (gu E E E (gu E E E (gn E E E (gy E E E (r (pk E E) (r (pk E E) (re (cf E (sk (sq (sq ?_)))))))))))))))))
      refine gen (fun ρ=>ρ 0 = v∧ρ 2=.bool false∧ρ 3 = o1∧ρ 4=.int .i64 aq∧ρ 5=.int .i64 mz∧ρ 6=.int .i64 (-1)∧ρ 7=.int .i64 (f : Int)∧True) ⟨z0,z2,z3,z4,z5,z6,z7,trivial⟩ ?_
      rintro ρ ⟨z0, z2, z3, z4, z5, z6, z7, -⟩
      refine rg (r (sa E) (re (bl ?_)))
      refine lp (α := Nat) (fun i ρ w' => ρ 0 = v∧ρ 3 = o1∧ρ 4=.int .i64 aq∧ρ 5=.int .i64 mz∧ρ 6=.int .i64 (-1)∧ρ 7=.int .i64 (f : Int)∧ρ 8=.int .i64 (i : Int)∧Hold w [] w' [rR i64 2 o1 cs]∧i ≤ cs.length) (fun i => cs.length - i) 0 ?_ ?_
      ·exact ⟨z0,z3,z4,z5,z6,z7,E,H3,by omega⟩
      clear H3
      rintro i ρ w504 ⟨y0, y3, y4, y5, y6, y7, y8, H4, hi⟩
      obtain ⟨_, R7⟩ : ∃ F, Kd.R i64 w504 F o1 cs := Hold.row H4 0 rfl
      refine sq (sq (rg (r (mv y8) (r (mv y3) (r (ln Try.underlying22 E (R7)) (r (bi E E E) (re ?_)))))))
      refine cp E (fun hlt => ?_) (fun hlt => ?_)
      ·have hi' : i < cs.length := by omega
       have hvi : ¬ (i : Int) = aq → ¬ (1 ≤ cs[i] ∧ cs[i] < mz) := fun h => by rw [← inside_iff, hVn i hi' h]; simp
       have hwi := hfm i hi'
       simp only [decide_eq_true_eq] at hwi
       refine sk (sq (bl (sq (sq (rg (r (mv y8) (r (mv y4) (r (bi E E E) (r (mv E) ?_)))))))))
       refine spn 97 E (fun k23 => ?_) (fun k23 => ?_)
       ·refine gy E E E (r (mv y3) (gy E E E (r (mv y8) (gy E E E ?_))))
        obtain ⟨c100_8, ad100_8, k100_8, e100_8, p100_8⟩ := Kd.R.place R7 i (hi')
        refine r (ix (j := i) Try.underlying22 ti2 e100_8 E (hi')) (gy E E E (r (ld Try.underlying2 E E p100_8.cell) (gy E E E (r (bi E E E) (r (pk E E) (r (mv E) ?_))))))
        refine sp 104 E (fun k24 => ?_) (fun k24 => ?_)
        ·refine gy E E E (r (mv y3) (gy E E E (r (mv y8) (gy E E E ?_))))
         obtain ⟨c107_9, ad107_9, k107_9, e107_9, p107_9⟩ := Kd.R.place R7 i (hi')
         refine r (ix (j := i) Try.underlying22 ti2 e107_9 E (hi')) (gy E E E (r (ld Try.underlying2 E E p107_9.cell) (gy E E E (r (mv y5) (gy E E E (r (bi E E E) (r (pk E E) (r (mv E) ?_))))))))
         refine sp 112 E (fun k25 => ?_) (fun k25 => ?_)
         ·refine gy E E E (r (mv y8) (gy E E E (r (mv y6) (gy E E E (r (bi E E E) (r (pk E E) (re ?_)))))))
          exfalso; omega
         ·refine gn E E E (gn E E E (gn E E E (r (pk E E) (re (cf E (sk (sq ?_)))))))
          refine gen (fun ρ=>ρ 0 = v∧ρ 3 = o1∧ρ 4=.int .i64 aq∧ρ 5=.int .i64 mz∧ρ 6=.int .i64 (-1)∧ρ 7=.int .i64 (f : Int)∧ρ 8=.int .i64 (i : Int)∧True) ⟨y0,y3,y4,y5,y6,y7,y8,trivial⟩ ?_
          rintro ρ ⟨z0, z3, z4, z5, z6, z7, z8, -⟩
          refine rg (r (mv z8) (r (mv z4) (r (bi E E E) (r (mv E) ?_))))
          refine spn 149 E (fun k26 => ?_) (fun k26 => ?_)
          ·refine gy E E E (r (mv z3) (gy E E E (r (mv z8) (gy E E E ?_))))
           obtain ⟨c152_10, ad152_10, k152_10, e152_10, p152_10⟩ := Kd.R.place R7 i (hi')
           refine r (ix (j := i) Try.underlying22 ti2 e152_10 E (hi')) (gy E E E (r (ld Try.underlying2 E E p152_10.cell) (gy E E E (r (bi E E E) (r (pk E E) (r (mv E) ?_))))))
           refine sp 156 E (fun k27 => ?_) (fun k27 => ?_)
           ·refine gy E E E (r (mv z7) (gy E E E (r (bi E E E) (gy E E E (r (mv E) ?_)))))
            refine spf 159 E (show (decide ((f : Int) < 0)) = false from (decide_eq_false (by omega))) ?_
            refine gy E E E (r (mv z8) (gy E E E (r (mv z7) (gy E E E (r (bi E E E) (gy E E E (r (pk E E) (r (pk E E) (re ?_)))))))))
            refine cf ((E : _ = Value.bool (decide ((i : Int) < (f : Int)))).trans (congrArg Value.bool (show (decide ((i : Int) < (f : Int))) = false from (decide_eq_false (by omega))))) ?_
            refine sk (be ?_)
            refine gen (fun ρ=>ρ 0 = v∧ρ 3 = o1∧ρ 4=.int .i64 aq∧ρ 5=.int .i64 mz∧ρ 6=.int .i64 (-1)∧ρ 7=.int .i64 (f : Int)∧ρ 8=.int .i64 (i : Int)∧True) ⟨z0,z3,z4,z5,z6,z7,z8,trivial⟩ ?_
            rintro ρ ⟨z0, z3, z4, z5, z6, z7, z8, -⟩
            refine rg (r (mv z8) (r (ad (a := (i : Int)) (b := 1) ((i : Int) + 1) E E (by omega)) (r (sa E) (re ?_))))
            exact ag (i + 1) ⟨z0,z3,z4,z5,z6,z7,E,H4,by omega⟩ (by first | omega | (dsimp only; omega))
           ·refine gn E E E (gn E E E (gn E E E (gu E E E (gu E E E (gu E E E (gn E E E (r (pk E E) (re (cf E (sk (be ?_)))))))))))
            refine gen (fun ρ=>ρ 0 = v∧ρ 3 = o1∧ρ 4=.int .i64 aq∧ρ 5=.int .i64 mz∧ρ 6=.int .i64 (-1)∧ρ 7=.int .i64 (f : Int)∧ρ 8=.int .i64 (i : Int)∧True) ⟨z0,z3,z4,z5,z6,z7,z8,trivial⟩ ?_
            rintro ρ ⟨z0, z3, z4, z5, z6, z7, z8, -⟩
            refine rg (r (mv z8) (r (ad (a := (i : Int)) (b := 1) ((i : Int) + 1) E E (by omega)) (r (sa E) (re ?_))))
            exact ag (i + 1) ⟨z0,z3,z4,z5,z6,z7,E,H4,by omega⟩ (by first | omega | (dsimp only; omega))
          ·refine gn E E E (gn E E E (gn E E E (gn E E E (gn E E E (r (pk E E) (r (mv E) (gn E E E (gn E E E (gn E E E (gu E E E (gu E E E (gu E E E (gn E E E (r (pk E E) (re (cf E (sk (be ?_))))))))))))))))))
           refine gen (fun ρ=>ρ 0 = v∧ρ 3 = o1∧ρ 4=.int .i64 aq∧ρ 5=.int .i64 mz∧ρ 6=.int .i64 (-1)∧ρ 7=.int .i64 (f : Int)∧ρ 8=.int .i64 (i : Int)∧True) ⟨z0,z3,z4,z5,z6,z7,z8,trivial⟩ ?_
           rintro ρ ⟨z0, z3, z4, z5, z6, z7, z8, -⟩
           refine rg (r (mv z8) (r (ad (a := (i : Int)) (b := 1) ((i : Int) + 1) E E (by omega)) (r (sa E) (re ?_))))
           exact ag (i + 1) ⟨z0,z3,z4,z5,z6,z7,E,H4,by omega⟩ (by first | omega | (dsimp only; omega))
        ·refine gn E E E (gn E E E (gn E E E (gn E E E (gn E E E (gn E E E (r (pk E E) (r (mv E) (gn E E E (gn E E E (gn E E E (r (pk E E) (re (cf E (sk (sq ?_)))))))))))))))
         refine gen (fun ρ=>ρ 0 = v∧ρ 3 = o1∧ρ 4=.int .i64 aq∧ρ 5=.int .i64 mz∧ρ 6=.int .i64 (-1)∧ρ 7=.int .i64 (f : Int)∧ρ 8=.int .i64 (i : Int)∧True) ⟨y0,y3,y4,y5,y6,y7,y8,trivial⟩ ?_
         rintro ρ ⟨z0, z3, z4, z5, z6, z7, z8, -⟩
         refine rg (r (mv z8) (r (mv z4) (r (bi E E E) (r (mv E) ?_))))
         refine spn 149 E (fun k28 => ?_) (fun k28 => ?_)
         ·refine gy E E E (r (mv z3) (gy E E E (r (mv z8) (gy E E E ?_))))
          obtain ⟨c152_9, ad152_9, k152_9, e152_9, p152_9⟩ := Kd.R.place R7 i (hi')
          refine r (ix (j := i) Try.underlying22 ti2 e152_9 E (hi')) (gy E E E (r (ld Try.underlying2 E E p152_9.cell) (gy E E E (r (bi E E E) (r (pk E E) (r (mv E) ?_))))))
          refine sp 156 E (fun k29 => ?_) (fun k29 => ?_)
          ·refine gy E E E (r (mv z7) (gy E E E (r (bi E E E) (gy E E E (r (mv E) ?_)))))
           refine spf 159 E (show (decide ((f : Int) < 0)) = false from (decide_eq_false (by omega))) ?_
           refine gy E E E (r (mv z8) (gy E E E (r (mv z7) (gy E E E (r (bi E E E) (gy E E E (r (pk E E) (r (pk E E) (re ?_)))))))))
           refine cf ((E : _ = Value.bool (decide ((i : Int) < (f : Int)))).trans (congrArg Value.bool (show (decide ((i : Int) < (f : Int))) = false from (decide_eq_false (by omega))))) ?_
           refine sk (be ?_)
           refine gen (fun ρ=>ρ 0 = v∧ρ 3 = o1∧ρ 4=.int .i64 aq∧ρ 5=.int .i64 mz∧ρ 6=.int .i64 (-1)∧ρ 7=.int .i64 (f : Int)∧ρ 8=.int .i64 (i : Int)∧True) ⟨z0,z3,z4,z5,z6,z7,z8,trivial⟩ ?_
           rintro ρ ⟨z0, z3, z4, z5, z6, z7, z8, -⟩
           refine rg (r (mv z8) (r (ad (a := (i : Int)) (b := 1) ((i : Int) + 1) E E (by omega)) (r (sa E) (re ?_))))
           exact ag (i + 1) ⟨z0,z3,z4,z5,z6,z7,E,H4,by omega⟩ (by first | omega | (dsimp only; omega))
          ·refine gn E E E (gn E E E (gn E E E (gu E E E (gu E E E (gu E E E (gn E E E (r (pk E E) (re (cf E (sk (be ?_)))))))))))
           refine gen (fun ρ=>ρ 0 = v∧ρ 3 = o1∧ρ 4=.int .i64 aq∧ρ 5=.int .i64 mz∧ρ 6=.int .i64 (-1)∧ρ 7=.int .i64 (f : Int)∧ρ 8=.int .i64 (i : Int)∧True) ⟨z0,z3,z4,z5,z6,z7,z8,trivial⟩ ?_
           rintro ρ ⟨z0, z3, z4, z5, z6, z7, z8, -⟩
           refine rg (r (mv z8) (r (ad (a := (i : Int)) (b := 1) ((i : Int) + 1) E E (by omega)) (r (sa E) (re ?_))))
           exact ag (i + 1) ⟨z0,z3,z4,z5,z6,z7,E,H4,by omega⟩ (by first | omega | (dsimp only; omega))
         ·refine gn E E E (gn E E E (gn E E E (gn E E E (gn E E E (r (pk E E) (r (mv E) (gn E E E (gn E E E (gn E E E (gu E E E (gu E E E (gu E E E (gn E E E (r (pk E E) (re (cf E (sk (be ?_))))))))))))))))))
          refine gen (fun ρ=>ρ 0 = v∧ρ 3 = o1∧ρ 4=.int .i64 aq∧ρ 5=.int .i64 mz∧ρ 6=.int .i64 (-1)∧ρ 7=.int .i64 (f : Int)∧ρ 8=.int .i64 (i : Int)∧True) ⟨z0,z3,z4,z5,z6,z7,z8,trivial⟩ ?_
          rintro ρ ⟨z0, z3, z4, z5, z6, z7, z8, -⟩
          refine rg (r (mv z8) (r (ad (a := (i : Int)) (b := 1) ((i : Int) + 1) E E (by omega)) (r (sa E) (re ?_))))
          exact ag (i + 1) ⟨z0,z3,z4,z5,z6,z7,E,H4,by omega⟩ (by first | omega | (dsimp only; omega))
       ·refine gn E E E (gn E E E (gn E E E (gn E E E (gn E E E (r (pk E E) (r (mv E) (gn E E E (gn E E E (gn E E E (gn E E E (gn E E E (gn E E E (r (pk E E) (r (mv E) (gn E E E (gn E E E (gn E E E (r (pk E E) (re (cf E (sk (sq ?_))))))))))))))))))))))
        refine gen (fun ρ=>ρ 0 = v∧ρ 3 = o1∧ρ 4=.int .i64 aq∧ρ 5=.int .i64 mz∧ρ 6=.int .i64 (-1)∧ρ 7=.int .i64 (f : Int)∧ρ 8=.int .i64 (i : Int)∧True) ⟨y0,y3,y4,y5,y6,y7,y8,trivial⟩ ?_
        rintro ρ ⟨z0, z3, z4, z5, z6, z7, z8, -⟩
        refine rg (r (mv z8) (r (mv z4) (r (bi E E E) (r (mv E) ?_))))
        refine spn 149 E (fun k30 => ?_) (fun k30 => ?_)
        ·refine gy E E E (r (mv z3) (gy E E E (r (mv z8) (gy E E E ?_))))
         obtain ⟨c152_8, ad152_8, k152_8, e152_8, p152_8⟩ := Kd.R.place R7 i (hi')
         refine r (ix (j := i) Try.underlying22 ti2 e152_8 E (hi')) (gy E E E (r (ld Try.underlying2 E E p152_8.cell) (gy E E E (r (bi E E E) (r (pk E E) (r (mv E) ?_))))))
         refine sp 156 E (fun k31 => ?_) (fun k31 => ?_)
         ·refine gy E E E (r (mv z7) (gy E E E (r (bi E E E) (gy E E E (r (mv E) ?_)))))
          refine spf 159 E (show (decide ((f : Int) < 0)) = false from (decide_eq_false (by omega))) ?_
          refine gy E E E (r (mv z8) (gy E E E (r (mv z7) (gy E E E (r (bi E E E) (gy E E E (r (pk E E) (r (pk E E) (re ?_)))))))))
          refine cf ((E : _ = Value.bool (decide ((i : Int) < (f : Int)))).trans (congrArg Value.bool (show (decide ((i : Int) < (f : Int))) = false from (decide_eq_false (by omega))))) ?_
          refine sk (be ?_)
          refine gen (fun ρ=>ρ 0 = v∧ρ 3 = o1∧ρ 4=.int .i64 aq∧ρ 5=.int .i64 mz∧ρ 6=.int .i64 (-1)∧ρ 7=.int .i64 (f : Int)∧ρ 8=.int .i64 (i : Int)∧True) ⟨z0,z3,z4,z5,z6,z7,z8,trivial⟩ ?_
          rintro ρ ⟨z0, z3, z4, z5, z6, z7, z8, -⟩
          refine rg (r (mv z8) (r (ad (a := (i : Int)) (b := 1) ((i : Int) + 1) E E (by omega)) (r (sa E) (re ?_))))
          exact ag (i + 1) ⟨z0,z3,z4,z5,z6,z7,E,H4,by omega⟩ (by first | omega | (dsimp only; omega))
         ·refine gn E E E (gn E E E (gn E E E (gu E E E (gu E E E (gu E E E (gn E E E (r (pk E E) (re (cf E (sk (be ?_)))))))))))
          refine gen (fun ρ=>ρ 0 = v∧ρ 3 = o1∧ρ 4=.int .i64 aq∧ρ 5=.int .i64 mz∧ρ 6=.int .i64 (-1)∧ρ 7=.int .i64 (f : Int)∧ρ 8=.int .i64 (i : Int)∧True) ⟨z0,z3,z4,z5,z6,z7,z8,trivial⟩ ?_
          rintro ρ ⟨z0, z3, z4, z5, z6, z7, z8, -⟩
          refine rg (r (mv z8) (r (ad (a := (i : Int)) (b := 1) ((i : Int) + 1) E E (by omega)) (r (sa E) (re ?_))))
          exact ag (i + 1) ⟨z0,z3,z4,z5,z6,z7,E,H4,by omega⟩ (by first | omega | (dsimp only; omega))
        ·refine gn E E E (gn E E E (gn E E E (gn E E E (gn E E E (r (pk E E) (r (mv E) (gn E E E (gn E E E (gn E E E (gu E E E (gu E E E (gu E E E (gn E E E (r (pk E E) (re (cf E (sk (be ?_))))))))))))))))))
         refine gen (fun ρ=>ρ 0 = v∧ρ 3 = o1∧ρ 4=.int .i64 aq∧ρ 5=.int .i64 mz∧ρ 6=.int .i64 (-1)∧ρ 7=.int .i64 (f : Int)∧ρ 8=.int .i64 (i : Int)∧True) ⟨z0,z3,z4,z5,z6,z7,z8,trivial⟩ ?_
         rintro ρ ⟨z0, z3, z4, z5, z6, z7, z8, -⟩
         refine rg (r (mv z8) (r (ad (a := (i : Int)) (b := 1) ((i : Int) + 1) E E (by omega)) (r (sa E) (re ?_))))
         exact ag (i + 1) ⟨z0,z3,z4,z5,z6,z7,E,H4,by omega⟩ (by first | omega | (dsimp only; omega))
      ·refine ex E (sq (rg (r (mv y0) (cl go55 (DrawFreeLids (hx.t (Hold.ch H4)) lv ok) (ac E an) ?_))))
       rintro rtv wd2 ⟨t, nn, o2, rfl, ht, Hd2⟩
       have H5 : Hold w [] wd2 [rR i64 2 o1 cs, rR kE 70 o2 t] := Hold.news H4 Hd2
       clear H4
       clear Hd2
       refine r (mv E) (r (xt E E) (r (xt E E) (r (sa E) (r (sa E) (re (sq ?_))))))
       refine gen (fun ρ=>ρ 9 = o2∧ρ 10=.int .i64 nn∧True) ⟨E,E,trivial⟩ ?_
       rintro ρ ⟨z9, z10, -⟩
       obtain ⟨_, R10⟩ : ∃ F, Kd.R kE wd2 F o2 t := Hold.row H5 1 rfl
       refine rg (r (mv z9) (r (mv z10) (cl go47 (impl_FreeLids R10 (by omega)) (ac E (ac E an)) ?_)))
       rintro rfl_ wfl ⟨efl, Hfl⟩
       have H6 : Hold w [] wfl [rR i64 2 o1 cs, rR kE 70 o2 t, rR i64 efl rfl_ (flD t nn)] := Hold.news H5 Hfl
       clear H5
       clear Hfl
       refine r (sa E) (re (sq (rg (r (sa E) (re (sq (sq (rg (r (sa E) (re (bl ?_)))))))))))
       refine lp (α := Nat) (fun i ρ w' => ρ 9 = o2∧ρ 10=.int .i64 nn∧ρ 11 = rfl_∧ρ 12=.int .i64 ((freeN t i).length : Int)∧ρ 13=.int .i64 (i : Int)∧Hold w [] w' [rR i64 2 o1 cs,rR kE 70 o2 t,rR i64 efl rfl_ (flD t nn)]∧i ≤ t.length) (fun i => t.length - i) 0 ?_ ?_
       ·exact ⟨z9,z10,E,E,E,H6,by omega⟩
       clear H6
       rintro i ρ w507 ⟨y9, y10, y11, y12, y13, H7, hi2⟩
       obtain ⟨_, R11⟩ : ∃ F, Kd.R kE w507 F o2 t := Hold.row H7 1 rfl
       refine sq (sq (rg (r (mv y13) (r (mv y9) (r (ln Try.underlying57 E (R11)) (r (bi E E E) (re ?_)))))))
       refine cp E (fun hlt2 => ?_) (fun hlt2 => ?_)
       ·have hi3 : i < t.length := by omega
        have hfl := freeN_len t i
        refine sk (sq (bl (sq (rg (r (mv y9) (r (mv y13) ?_))))))
        obtain ⟨c181_12, ad181_12, k181_12, e181_12, p181_12⟩ := Kd.R.place R11 i (hi3)
        have q181_12 := en_at p181_12
        refine r (ix (j := i) Try.underlying57 ti70 e181_12 E (hi3)) (r (fa' Try.underlying70 E ti2 E E) (r (ld Try.underlying2 E E (q181_12 0 _ E)) (r (bi E E E) (re ?_))))
        refine cp E (fun hz => ?_) (fun hz => ?_)
        ·refine gen (fun ρ=>ρ 9 = o2∧ρ 10=.int .i64 nn∧ρ 11 = rfl_∧ρ 12=.int .i64 ((freeN t i).length : Int)∧ρ 13=.int .i64 (i : Int)∧True) ⟨y9,y10,y11,y12,y13,trivial⟩ ?_
         rintro ρ ⟨z9, z10, z11, z12, z13, -⟩
         refine rg (r (mv z12) (r (ad (a := ((freeN t i).length : Int)) (b := 1) (((freeN t (i + 1)).length : Int)) E E (by rw [freeN_yes hi3 hz]; simp; omega)) (r (sa E) (re (be (rg (r (mv z13) (r (ad (a := (i : Int)) (b := 1) ((i : Int) + 1) E E (by omega)) (r (sa E) (re ?_))))))))))
         exact ag (i + 1) ⟨z9,z10,z11,E,E,H7,by omega⟩ (by first | omega | (dsimp only; omega))
        ·refine sk (be ?_)
         refine gen (fun ρ=>ρ 9 = o2∧ρ 10=.int .i64 nn∧ρ 11 = rfl_∧ρ 12=.int .i64 ((freeN t i).length : Int)∧ρ 13=.int .i64 (i : Int)∧True) ⟨y9,y10,y11,y12,y13,trivial⟩ ?_
         rintro ρ ⟨z9, z10, z11, z12, z13, -⟩
         refine rg (r (mv z13) (r (ad (a := (i : Int)) (b := 1) ((i : Int) + 1) E E (by omega)) (r (sa E) (re ?_))))
         rw [← freeN_no hi3 hz] at z12
         exact ag (i + 1) ⟨z9,z10,z11,z12,E,H7,by omega⟩ (by first | omega | (dsimp only; omega))
       ·obtain rfl : i = t.length := by omega
        refine ex E (sq (sq (rg (r (mv y10) (r (bi E E E) (r (mv E) ?_))))))
        refine sp 189 E (fun hn1 => ?_) (fun hn1 => ?_)
        ·refine gn E E E (gn E E E (gn E E E (r (pk E E) (re (ct E (sq ?_))))))
         refine gen (fun ρ=>ρ 9 = o2∧ρ 10=.int .i64 nn∧ρ 11 = rfl_∧True) ⟨y9,y10,y11,trivial⟩ ?_
         rintro ρ ⟨z9, z10, z11, -⟩
         obtain ⟨_, R12⟩ : ∃ F, Kd.R i64 w507 F rfl_ (flD t nn) := Hold.row H7 2 rfl
         refine rg (r (mv z11) (r (ln Try.underlying22 E (R12)) (r (bi E E E) (r (sa E) (re (rt ?_))))))
         exact fin1 (v := .bool (decide (((flD t nn).length : Int) = 0))) Try.results10 E ⟨congrArg Value.bool (by rw [flD_nil (.inl hn1)]; simp),Hold.ch H7⟩
        ·refine gy E E E (r (mv y10) (gy E E E (r (mv y12) (gy E E E (r (bi E E E) (r (pk E E) (re ?_)))))))
         refine cp E (fun hn2 => ?_) (fun hn2 => ?_)
         ·refine sq ?_
          refine gen (fun ρ=>ρ 9 = o2∧ρ 10=.int .i64 nn∧ρ 11 = rfl_∧True) ⟨y9,y10,y11,trivial⟩ ?_
          rintro ρ ⟨z9, z10, z11, -⟩
          obtain ⟨_, R12⟩ : ∃ F, Kd.R i64 w507 F rfl_ (flD t nn) := Hold.row H7 2 rfl
          refine rg (r (mv z11) (r (ln Try.underlying22 E (R12)) (r (bi E E E) (r (sa E) (re (rt ?_))))))
          exact fin1 (v := .bool (decide (((flD t nn).length : Int) = 0))) Try.results10 E ⟨congrArg Value.bool (by rw [flD_nil (.inr (by omega))]; simp),Hold.ch H7⟩
         ·obtain ⟨hF1, hF2⟩ := flD_full (t := t) (n := nn) (by omega) (by omega)
          refine sk (sq (sq ?_))
          refine gen (fun ρ=>ρ 9 = o2∧ρ 10=.int .i64 nn∧ρ 11 = rfl_∧True) ⟨y9,y10,y11,trivial⟩ ?_
          rintro ρ ⟨z9, z10, z11, -⟩
          obtain ⟨_, R12⟩ : ∃ F, Kd.R i64 w507 F rfl_ (flD t nn) := Hold.row H7 2 rfl
          refine rg (r (mv z11) (r (ln Try.underlying22 E (R12)) (r (mv z10) (r (bi E E E) (re ?_)))))
          refine cf ((E : _ = Value.bool (!decide (((flD t nn).length : Int) = nn))).trans (congrArg Value.bool (show (!decide (((flD t nn).length : Int) = nn)) = false from (by rw [decide_eq_true hF1]; rfl)))) ?_
          refine sk (sq (rg (r (sa E) (re (sq (sq (rg (r (sa E) (re (bl ?_))))))))))
          refine lp (α := Nat) (fun i ρ w' => ρ 9 = o2∧ρ 10=.int .i64 nn∧ρ 11 = rfl_∧ρ 14=.int .i64 ((freeN t i).length : Int)∧ρ 15=.int .i64 (i : Int)∧Hold w [] w' [rR i64 2 o1 cs,rR kE 70 o2 t,rR i64 efl rfl_ (flD t nn)]∧i ≤ t.length) (fun i => t.length - i) 0 ?_ ?_
          ·exact ⟨z9,z10,z11,E,E,H7,by omega⟩
          clear H7
          rintro i ρ w508 ⟨y9, y10, y11, y14, y15, H8, hi2⟩
          obtain ⟨_, R13⟩ : ∃ F, Kd.R kE w508 F o2 t := Hold.row H8 1 rfl
          refine sq (sq (rg (r (mv y15) (r (mv y9) (r (ln Try.underlying57 E (R13)) (r (bi E E E) (r (mv E) ?_)))))))
          refine sp 205 E (fun hm1 => ?_) (fun hm1 => ?_)
          ·refine gy E E E (r (mv y14) (gy E E E (r (mv y10) (gy E E E (r (bi E E E) (r (pk E E) (re ?_)))))))
           refine cp E (fun hm2 => ?_) (fun hm2 => ?_)
           ·have hi3 : i < t.length := by omega
            have hfl := freeN_len t i
            refine sk (sq (bl (sq (rg (r (mv y9) (r (mv y15) ?_))))))
            obtain ⟨c214_14, ad214_14, k214_14, e214_14, p214_14⟩ := Kd.R.place R13 i (hi3)
            have q214_14 := en_at p214_14
            refine r (ix (j := i) Try.underlying57 ti70 e214_14 E (hi3)) (r (fa' Try.underlying70 E ti2 E E) (r (ld Try.underlying2 E E (q214_14 0 _ E)) (r (bi E E E) (re ?_))))
            refine cp E (fun hz => ?_) (fun hz => ?_)
            ·have hkl : (freeN t i).length < (flD t nn).length := by omega
             have hAt : (flD t nn)[(freeN t i).length] = (i : Int) + 1 := by
              have h9 := (hF2 _ hm2).trans (freeN_at hi3 hz)
              rw [List.getElem?_eq_getElem hkl] at h9; exact Option.some.inj h9
             obtain ⟨kk, hkk⟩ : ∃ k, k = (freeN t i).length := ⟨_, rfl⟩
             refine sq (sq ?_)
             refine gen (fun ρ=>ρ 9 = o2∧ρ 10=.int .i64 nn∧ρ 11 = rfl_∧ρ 14=.int .i64 ((freeN t i).length : Int)∧ρ 15=.int .i64 (i : Int)∧True) ⟨y9,y10,y11,y14,y15,trivial⟩ ?_
             rintro ρ ⟨z9, z10, z11, z14, z15, -⟩
             obtain ⟨_, R15⟩ : ∃ F, Kd.R i64 w508 F rfl_ (flD t nn) := Hold.row H8 2 rfl
             refine rg (r (mv z11) (r (mv z14) ?_))
             obtain ⟨c220_16, ad220_16, k220_16, e220_16, p220_16⟩ := Kd.R.place R15 ((freeN t i).length) (hkl)
             refine r (ix (j := (freeN t i).length) Try.underlying22 ti2 e220_16 E (hkl)) (r (ld Try.underlying2 E E p220_16.cell) (r (mv z15) (r (ad (a := (i : Int)) (b := 1) ((i : Int) + 1) E E (by omega)) (r (bi E E E) (re ?_)))))
             refine cf ((E : _ = Value.bool (!decide (((flD t nn)[(freeN t i).length]) = ((i : Int) + 1)))).trans (congrArg Value.bool (show (!decide (((flD t nn)[(freeN t i).length]) = ((i : Int) + 1))) = false from (by rw [decide_eq_true hAt]; rfl)))) ?_
             refine sk (rg (r (mv z14) (r (ad (a := ((freeN t i).length : Int)) (b := 1) (((freeN t (i + 1)).length : Int)) E E (by rw [freeN_yes hi3 hz]; simp; omega)) (r (sa E) (re (be ?_))))))
             refine gen (fun ρ=>ρ 9 = o2∧ρ 10=.int .i64 nn∧ρ 11 = rfl_∧ρ 14=.int .i64 ((freeN t (i + 1)).length : Int)∧ρ 15=.int .i64 (i : Int)∧True) ⟨z9,z10,z11,E,z15,trivial⟩ ?_
             rintro ρ ⟨z9, z10, z11, z14, z15, -⟩
             refine rg (r (mv z15) (r (ad (a := (i : Int)) (b := 1) ((i : Int) + 1) E E (by omega)) (r (sa E) (re ?_))))
             exact ag (i + 1) ⟨z9,z10,z11,z14,E,H8,by omega⟩ (by first | omega | (dsimp only; omega))
            ·refine sk (be ?_)
             refine gen (fun ρ=>ρ 9 = o2∧ρ 10=.int .i64 nn∧ρ 11 = rfl_∧ρ 14=.int .i64 ((freeN t i).length : Int)∧ρ 15=.int .i64 (i : Int)∧True) ⟨y9,y10,y11,y14,y15,trivial⟩ ?_
             rintro ρ ⟨z9, z10, z11, z14, z15, -⟩
             refine rg (r (mv z15) (r (ad (a := (i : Int)) (b := 1) ((i : Int) + 1) E E (by omega)) (r (sa E) (re ?_))))
             rw [← freeN_no hi3 hz] at z14
             exact ag (i + 1) ⟨z9,z10,z11,z14,E,H8,by omega⟩ (by first | omega | (dsimp only; omega))
           ·refine ex E (sq (rg (r (sa E) (re (rt ?_)))))
            exact fin1 (v := .bool true) Try.results10 E ⟨E,Hold.ch H8⟩
          ·refine gn E E E (gn E E E (gn E E E (r (pk E E) (re (cf E (ex E (sq (rg (r (sa E) (re (rt ?_)))))))))))
           exact fin1 (v := .bool true) Try.results10 E ⟨E,Hold.ch H8⟩
  ·rcases chosN (fun c => decide (c = 0)) aq cs with ⟨hW, hWn⟩ | ⟨f, hf, hW, hfa, hfp, hfm⟩
   ·rw [inside_iff] at hjp
    have hww := hWn
    obtain ⟨_, R3⟩ : ∃ F, Kd.R i64 wd F o1 cs := Hold.row H1 0 rfl
    refine cl go28 (impl_PickVictim R3 (by omega)) (ac E (ac E (ac E an))) ?_
    rintro rp wp ⟨er, cp1⟩
    rw [hV] at er
    subst er
    have H2 : Hold w [] wp [rR i64 2 o1 cs] := Hold.t H1 cp1
    clear H1
    clear cp1
    obtain ⟨_, R5⟩ : ∃ F, Kd.R i64 wp F o1 cs := Hold.row H2 0 rfl
    refine r (sa E) (re (sq (rg (r (mv z3) (r (mv z4) (cl go25 (impl_FreeSegment R5 (by omega)) (ac E (ac E an)) ?_))))))
    rintro rs wsg ⟨er2, cp2⟩
    rw [hW] at er2
    subst er2
    have H3 : Hold w [] wsg [rR i64 2 o1 cs] := Hold.t H2 cp2
    clear H2
    clear cp2
    refine r (sa E) (re (sq (sq (rg (r (mv E) (r (bi E E E) (r (mv E) ?_)))))))
    refine spf 34 E (show (decide ((j : Int) < (-1))) = false from (decide_eq_false (by omega))) ?_
    obtain ⟨_, R6⟩ : ∃ F, Kd.R i64 wsg F o1 cs := Hold.row H3 0 rfl
    refine gy E E E (r (mv E) (gy E E E (r (mv z3) (gy E E E (r (ln Try.underlying22 E (R6)) (gy E E E (r (bi E E E) (r (pk E E) (r (mv E) ?_)))))))))
    refine spf 40 E (show (decide ((cs.length : Int) ≤ (j : Int))) = false from (decide_eq_false (by omega))) ?_
    refine gy E E E (r (mv E) (gy E E E (r (bi E E E) (r (pk E E) (r (mv E) ?_)))))
    refine spf 44 E (show (decide ((-1 : Int) < (-1))) = false from (by decide)) ?_
    refine gy E E E (r (mv E) (gy E E E (r (mv z3) (gy E E E (r (ln Try.underlying22 E (R6)) (gy E E E (r (bi E E E) (r (pk E E) (re ?_)))))))))
    refine cp E (fun k32 => ?_) (fun k32 => ?_)
    ·refine sq ?_
     refine gen (fun ρ=>ρ 0 = v∧ρ 2=.bool false∧ρ 3 = o1∧ρ 4=.int .i64 aq∧ρ 5=.int .i64 mz∧ρ 6=.int .i64 (j : Int)∧ρ 7=.int .i64 (-1)∧True) ⟨z0,z2,z3,z4,z5,E,E,trivial⟩ ?_
     rintro ρ ⟨z0, z2, z3, z4, z5, z6, z7, -⟩
     refine rg (r (sa E) (re (rt ?_)))
     exfalso; omega
    ·refine sk (sq (sq ?_))
     refine gen (fun ρ=>ρ 0 = v∧ρ 2=.bool false∧ρ 3 = o1∧ρ 4=.int .i64 aq∧ρ 5=.int .i64 mz∧ρ 6=.int .i64 (j : Int)∧ρ 7=.int .i64 (-1)∧True) ⟨z0,z2,z3,z4,z5,E,E,trivial⟩ ?_
     rintro ρ ⟨z0, z2, z3, z4, z5, z6, z7, -⟩
     refine rg (r (mv z6) (r (bi E E E) (r (mv E) ?_)))
     refine sp 52 E (fun k33 => ?_) (fun k33 => ?_)
     ·refine gy E E E (r (mv z6) (gy E E E (r (mv z4) (gy E E E (r (bi E E E) (gy E E E (r (mv E) ?_)))))))
      refine spf 56 E (show (decide ((j : Int) = aq)) = false from (decide_eq_false (by omega))) ?_
      refine gy E E E (r (mv z3) (gy E E E (r (mv z6) (gy E E E ?_))))
      obtain ⟨c59_7, ad59_7, k59_7, e59_7, p59_7⟩ := Kd.R.place R6 j (hj)
      refine r (ix (j := j) Try.underlying22 ti2 e59_7 E (hj)) (gy E E E (r (ld Try.underlying2 E E p59_7.cell) (gy E E E (r (bi E E E) (gy E E E (r (pk E E) (gy E E E (r (mv E) ?_))))))))
      refine spf 63 E (show (decide ((cs[j]) < 1)) = false from (decide_eq_false (by omega))) ?_
      refine gy E E E (r (mv z3) (gy E E E (r (mv z6) (gy E E E ?_))))
      obtain ⟨c66_8, ad66_8, k66_8, e66_8, p66_8⟩ := Kd.R.place R6 j (hj)
      refine r (ix (j := j) Try.underlying22 ti2 e66_8 E (hj)) (gy E E E (r (ld Try.underlying2 E E p66_8.cell) (gy E E E (r (mv z5) (gy E E E (r (bi E E E) (gy E E E (r (pk E E) (r (pk E E) (r (mv E) ?_))))))))))
      refine spf 72 E (show (decide (mz ≤ (cs[j]))) = false from (decide_eq_false (by omega))) ?_
      refine gy E E E (r (mv z7) (gy E E E (r (bi E E E) (gy E E E (r (mv E) ?_)))))
      refine spf 75 E (show (decide (0 ≤ (-1 : Int))) = false from (by decide)) ?_
      refine gn E E E (gn E E E (gn E E E (gn E E E (gu E E E (gu E E E (gu E E E (gu E E E (gu E E E (gn E E E (gy E E E (r (pk E E) (r (pk E E) (re (cf E (sk (sq (sq ?_)))))))))))))))))
      refine gen (fun ρ=>ρ 0 = v∧ρ 2=.bool false∧ρ 3 = o1∧ρ 4=.int .i64 aq∧ρ 5=.int .i64 mz∧ρ 6=.int .i64 (j : Int)∧ρ 7=.int .i64 (-1)∧True) ⟨z0,z2,z3,z4,z5,z6,z7,trivial⟩ ?_
      rintro ρ ⟨z0, z2, z3, z4, z5, z6, z7, -⟩
      refine rg (r (sa E) (re (bl ?_)))
      refine lp (α := Nat) (fun i ρ w' => ρ 0 = v∧ρ 3 = o1∧ρ 4=.int .i64 aq∧ρ 5=.int .i64 mz∧ρ 6=.int .i64 (j : Int)∧ρ 7=.int .i64 (-1)∧ρ 8=.int .i64 (i : Int)∧Hold w [] w' [rR i64 2 o1 cs]∧i ≤ cs.length) (fun i => cs.length - i) 0 ?_ ?_
      ·exact ⟨z0,z3,z4,z5,z6,z7,E,H3,by omega⟩
      clear H3
      rintro i ρ w504 ⟨y0, y3, y4, y5, y6, y7, y8, H4, hi⟩
      obtain ⟨_, R9⟩ : ∃ F, Kd.R i64 w504 F o1 cs := Hold.row H4 0 rfl
      refine sq (sq (rg (r (mv y8) (r (mv y3) (r (ln Try.underlying22 E (R9)) (r (bi E E E) (re ?_)))))))
      refine cp E (fun hlt => ?_) (fun hlt => ?_)
      ·have hi' : i < cs.length := by omega
       have hvi := hjm i hi'
       simp only [inside_iff] at hvi
       have hwi : ¬ (i : Int) = aq → ¬ cs[i] = 0 := fun h => by have := hWn i hi' h; simpa using this
       refine sk (sq (bl (sq (sq (rg (r (mv y8) (r (mv y4) (r (bi E E E) (r (mv E) ?_)))))))))
       refine spn 97 E (fun k34 => ?_) (fun k34 => ?_)
       ·refine gy E E E (r (mv y3) (gy E E E (r (mv y8) (gy E E E ?_))))
        obtain ⟨c100_10, ad100_10, k100_10, e100_10, p100_10⟩ := Kd.R.place R9 i (hi')
        refine r (ix (j := i) Try.underlying22 ti2 e100_10 E (hi')) (gy E E E (r (ld Try.underlying2 E E p100_10.cell) (gy E E E (r (bi E E E) (r (pk E E) (r (mv E) ?_))))))
        refine sp 104 E (fun k35 => ?_) (fun k35 => ?_)
        ·refine gy E E E (r (mv y3) (gy E E E (r (mv y8) (gy E E E ?_))))
         obtain ⟨c107_11, ad107_11, k107_11, e107_11, p107_11⟩ := Kd.R.place R9 i (hi')
         refine r (ix (j := i) Try.underlying22 ti2 e107_11 E (hi')) (gy E E E (r (ld Try.underlying2 E E p107_11.cell) (gy E E E (r (mv y5) (gy E E E (r (bi E E E) (r (pk E E) (r (mv E) ?_))))))))
         refine sp 112 E (fun k36 => ?_) (fun k36 => ?_)
         ·refine gy E E E (r (mv y8) (gy E E E (r (mv y6) (gy E E E (r (bi E E E) (r (pk E E) (re ?_)))))))
          refine cpn E (fun k37 => ?_) (fun k37 => ?_)
          ·refine sq ?_
           refine gen (fun ρ=>ρ 0 = v∧ρ 3 = o1∧ρ 4=.int .i64 aq∧ρ 5=.int .i64 mz∧ρ 6=.int .i64 (j : Int)∧ρ 7=.int .i64 (-1)∧ρ 8=.int .i64 (i : Int)∧True) ⟨y0,y3,y4,y5,y6,y7,y8,trivial⟩ ?_
           rintro ρ ⟨z0, z3, z4, z5, z6, z7, z8, -⟩
           refine rd mixed (by kernel_rfl) (q (mv z6) (q (bi E E E) (q (mv E) ?_)))
           refine spfq 119 E (show (decide ((j : Int) < 0)) = false from (decide_eq_false (by omega))) ?_
           refine gyq E E E (q (mv z3) (gyq E E E (q (mv z8) (gyq E E E ?_))))
           obtain ⟨c122_12, ad122_12, k122_12, e122_12, p122_12⟩ := Kd.R.place R9 i (hi')
           refine q (ix (j := i) Try.underlying22 ti2 e122_12 E (hi')) (gyq E E E (q (ld Try.underlying2 E E p122_12.cell) (gyq E E E (q (mv z3) (gyq E E E (q (mv z6) (gyq E E E ?_)))))))
           obtain ⟨c126_13, ad126_13, k126_13, e126_13, p126_13⟩ := Kd.R.place R9 j (hj)
           refine q (ix (j := j) Try.underlying22 ti2 e126_13 E (hj)) (gyq E E E (q (ld Try.underlying2 E E p126_13.cell) (gyq E E E (q (bi E E E) (q (pk E E) (q (mv E) ?_))))))
           refine spfq 130 E (show (decide ((cs[i]) < (cs[j]))) = false from (decide_eq_false (by omega))) ?_
           refine gyq E E E (q (mv z3) (gyq E E E (q (mv z8) (gyq E E E ?_))))
           obtain ⟨c133_14, ad133_14, k133_14, e133_14, p133_14⟩ := Kd.R.place R9 i (hi')
           refine q (ix (j := i) Try.underlying22 ti2 e133_14 E (hi')) (gyq E E E (q (ld Try.underlying2 E E p133_14.cell) (gyq E E E (q (mv z3) (gyq E E E (q (mv z6) (gyq E E E ?_)))))))
           obtain ⟨c137_15, ad137_15, k137_15, e137_15, p137_15⟩ := Kd.R.place R9 j (hj)
           refine q (ix (j := j) Try.underlying22 ti2 e137_15 E (hj)) (gyq E E E (q (ld Try.underlying2 E E p137_15.cell) (gyq E E E (q (bi E E E) (gyq E E E (q (mv E) ?_))))))
           refine spq 140 E (fun k38 => ?_) (fun k38 => ?_)
           ·refine gyq E E E (q (mv z8) (gyq E E E (q (mv z6) (gyq E E E (q (bi E E E) (gyq E E E (q (pk E E) (q (pk E E) (me ?_)))))))))
            intro w1 c1
            have H5 : Hold w [] w1 [rR i64 2 o1 cs] := Hold.t H4 c1
            clear H4
            refine cf ((E : _ = Value.bool (decide ((i : Int) < (j : Int)))).trans (congrArg Value.bool (show (decide ((i : Int) < (j : Int))) = false from (decide_eq_false (by omega))))) ?_
            refine sk (sq ?_)
            refine gen (fun ρ=>ρ 0 = v∧ρ 3 = o1∧ρ 4=.int .i64 aq∧ρ 5=.int .i64 mz∧ρ 6=.int .i64 (j : Int)∧ρ 7=.int .i64 (-1)∧ρ 8=.int .i64 (i : Int)∧True) ⟨z0,z3,z4,z5,z6,z7,z8,trivial⟩ ?_
            rintro ρ ⟨z0, z3, z4, z5, z6, z7, z8, -⟩
            refine rg (r (mv z8) (r (mv z4) (r (bi E E E) (r (mv E) ?_))))
            refine spn 149 E (fun k39 => ?_) (fun k39 => ?_)
            ·obtain ⟨_, R16⟩ : ∃ F, Kd.R i64 w1 F o1 cs := Hold.row H5 0 rfl
             refine gy E E E (r (mv z3) (gy E E E (r (mv z8) (gy E E E ?_))))
             obtain ⟨c152_17, ad152_17, k152_17, e152_17, p152_17⟩ := Kd.R.place R16 i (hi')
             refine r (ix (j := i) Try.underlying22 ti2 e152_17 E (hi')) (gy E E E (r (ld Try.underlying2 E E p152_17.cell) (gy E E E (r (bi E E E) (r (pk E E) (r (mv E) ?_))))))
             refine sp 156 E (fun k40 => ?_) (fun k40 => ?_)
             ·refine gy E E E (r (mv z7) (gy E E E (r (bi E E E) (gy E E E (r (mv E) ?_)))))
              refine spf 159 E (show (decide ((-1 : Int) < 0)) = true from (by decide)) ?_
              refine gn E E E (gn E E E (gn E E E (gy E E E (r (pk E E) (r (pk E E) (re (ct E (sq ?_))))))))
              refine gen (fun ρ=>ρ 0 = v∧ρ 3 = o1∧ρ 4=.int .i64 aq∧ρ 5=.int .i64 mz∧ρ 6=.int .i64 (j : Int)∧ρ 7=.int .i64 (-1)∧ρ 8=.int .i64 (i : Int)∧True) ⟨z0,z3,z4,z5,z6,z7,z8,trivial⟩ ?_
              rintro ρ ⟨z0, z3, z4, z5, z6, z7, z8, -⟩
              refine rg (r (sa E) (re (rt ?_)))
              exfalso; omega
             ·refine gn E E E (gn E E E (gn E E E (gu E E E (gu E E E (gu E E E (gn E E E (r (pk E E) (re (cf E (sk (be ?_)))))))))))
              refine gen (fun ρ=>ρ 0 = v∧ρ 3 = o1∧ρ 4=.int .i64 aq∧ρ 5=.int .i64 mz∧ρ 6=.int .i64 (j : Int)∧ρ 7=.int .i64 (-1)∧ρ 8=.int .i64 (i : Int)∧True) ⟨z0,z3,z4,z5,z6,z7,z8,trivial⟩ ?_
              rintro ρ ⟨z0, z3, z4, z5, z6, z7, z8, -⟩
              refine rg (r (mv z8) (r (ad (a := (i : Int)) (b := 1) ((i : Int) + 1) E E (by omega)) (r (sa E) (re ?_))))
              exact ag (i + 1) ⟨z0,z3,z4,z5,z6,z7,E,H5,by omega⟩ (by first | omega | (dsimp only; omega))
            ·refine gn E E E (gn E E E (gn E E E (gn E E E (gn E E E (r (pk E E) (r (mv E) (gn E E E (gn E E E (gn E E E (gu E E E (gu E E E (gu E E E (gn E E E (r (pk E E) (re (cf E (sk (be ?_))))))))))))))))))
             refine gen (fun ρ=>ρ 0 = v∧ρ 3 = o1∧ρ 4=.int .i64 aq∧ρ 5=.int .i64 mz∧ρ 6=.int .i64 (j : Int)∧ρ 7=.int .i64 (-1)∧ρ 8=.int .i64 (i : Int)∧True) ⟨z0,z3,z4,z5,z6,z7,z8,trivial⟩ ?_
             rintro ρ ⟨z0, z3, z4, z5, z6, z7, z8, -⟩
             refine rg (r (mv z8) (r (ad (a := (i : Int)) (b := 1) ((i : Int) + 1) E E (by omega)) (r (sa E) (re ?_))))
             exact ag (i + 1) ⟨z0,z3,z4,z5,z6,z7,E,H5,by omega⟩ (by first | omega | (dsimp only; omega))
           ·refine gnq E E E (gnq E E E (gnq E E E (gyq E E E (q (pk E E) (q (pk E E) (me ?_))))))
            intro w1 c1
            have H5 : Hold w [] w1 [rR i64 2 o1 cs] := Hold.t H4 c1
            clear H4
            refine cf E (sk (sq ?_))
            refine gen (fun ρ=>ρ 0 = v∧ρ 3 = o1∧ρ 4=.int .i64 aq∧ρ 5=.int .i64 mz∧ρ 6=.int .i64 (j : Int)∧ρ 7=.int .i64 (-1)∧ρ 8=.int .i64 (i : Int)∧True) ⟨z0,z3,z4,z5,z6,z7,z8,trivial⟩ ?_
            rintro ρ ⟨z0, z3, z4, z5, z6, z7, z8, -⟩
            refine rg (r (mv z8) (r (mv z4) (r (bi E E E) (r (mv E) ?_))))
            refine spn 149 E (fun k41 => ?_) (fun k41 => ?_)
            ·obtain ⟨_, R16⟩ : ∃ F, Kd.R i64 w1 F o1 cs := Hold.row H5 0 rfl
             refine gy E E E (r (mv z3) (gy E E E (r (mv z8) (gy E E E ?_))))
             obtain ⟨c152_17, ad152_17, k152_17, e152_17, p152_17⟩ := Kd.R.place R16 i (hi')
             refine r (ix (j := i) Try.underlying22 ti2 e152_17 E (hi')) (gy E E E (r (ld Try.underlying2 E E p152_17.cell) (gy E E E (r (bi E E E) (r (pk E E) (r (mv E) ?_))))))
             refine sp 156 E (fun k42 => ?_) (fun k42 => ?_)
             ·refine gy E E E (r (mv z7) (gy E E E (r (bi E E E) (gy E E E (r (mv E) ?_)))))
              refine spf 159 E (show (decide ((-1 : Int) < 0)) = true from (by decide)) ?_
              refine gn E E E (gn E E E (gn E E E (gy E E E (r (pk E E) (r (pk E E) (re (ct E (sq ?_))))))))
              refine gen (fun ρ=>ρ 0 = v∧ρ 3 = o1∧ρ 4=.int .i64 aq∧ρ 5=.int .i64 mz∧ρ 6=.int .i64 (j : Int)∧ρ 7=.int .i64 (-1)∧ρ 8=.int .i64 (i : Int)∧True) ⟨z0,z3,z4,z5,z6,z7,z8,trivial⟩ ?_
              rintro ρ ⟨z0, z3, z4, z5, z6, z7, z8, -⟩
              refine rg (r (sa E) (re (rt ?_)))
              exfalso; omega
             ·refine gn E E E (gn E E E (gn E E E (gu E E E (gu E E E (gu E E E (gn E E E (r (pk E E) (re (cf E (sk (be ?_)))))))))))
              refine gen (fun ρ=>ρ 0 = v∧ρ 3 = o1∧ρ 4=.int .i64 aq∧ρ 5=.int .i64 mz∧ρ 6=.int .i64 (j : Int)∧ρ 7=.int .i64 (-1)∧ρ 8=.int .i64 (i : Int)∧True) ⟨z0,z3,z4,z5,z6,z7,z8,trivial⟩ ?_
              rintro ρ ⟨z0, z3, z4, z5, z6, z7, z8, -⟩
              refine rg (r (mv z8) (r (ad (a := (i : Int)) (b := 1) ((i : Int) + 1) E E (by omega)) (r (sa E) (re ?_))))
              exact ag (i + 1) ⟨z0,z3,z4,z5,z6,z7,E,H5,by omega⟩ (by first | omega | (dsimp only; omega))
            ·refine gn E E E (gn E E E (gn E E E (gn E E E (gn E E E (r (pk E E) (r (mv E) (gn E E E (gn E E E (gn E E E (gu E E E (gu E E E (gu E E E (gn E E E (r (pk E E) (re (cf E (sk (be ?_))))))))))))))))))
             refine gen (fun ρ=>ρ 0 = v∧ρ 3 = o1∧ρ 4=.int .i64 aq∧ρ 5=.int .i64 mz∧ρ 6=.int .i64 (j : Int)∧ρ 7=.int .i64 (-1)∧ρ 8=.int .i64 (i : Int)∧True) ⟨z0,z3,z4,z5,z6,z7,z8,trivial⟩ ?_
             rintro ρ ⟨z0, z3, z4, z5, z6, z7, z8, -⟩
             refine rg (r (mv z8) (r (ad (a := (i : Int)) (b := 1) ((i : Int) + 1) E E (by omega)) (r (sa E) (re ?_))))
             exact ag (i + 1) ⟨z0,z3,z4,z5,z6,z7,E,H5,by omega⟩ (by first | omega | (dsimp only; omega))
          ·refine sk (sq ?_)
           refine gen (fun ρ=>ρ 0 = v∧ρ 3 = o1∧ρ 4=.int .i64 aq∧ρ 5=.int .i64 mz∧ρ 6=.int .i64 (j : Int)∧ρ 7=.int .i64 (-1)∧ρ 8=.int .i64 (i : Int)∧True) ⟨y0,y3,y4,y5,y6,y7,y8,trivial⟩ ?_
           rintro ρ ⟨z0, z3, z4, z5, z6, z7, z8, -⟩
           refine rg (r (mv z8) (r (mv z4) (r (bi E E E) (r (mv E) ?_))))
           refine spn 149 E (fun k43 => ?_) (fun k43 => ?_)
           ·refine gy E E E (r (mv z3) (gy E E E (r (mv z8) (gy E E E ?_))))
            obtain ⟨c152_12, ad152_12, k152_12, e152_12, p152_12⟩ := Kd.R.place R9 i (hi')
            refine r (ix (j := i) Try.underlying22 ti2 e152_12 E (hi')) (gy E E E (r (ld Try.underlying2 E E p152_12.cell) (gy E E E (r (bi E E E) (r (pk E E) (r (mv E) ?_))))))
            refine sp 156 E (fun k44 => ?_) (fun k44 => ?_)
            ·refine gy E E E (r (mv z7) (gy E E E (r (bi E E E) (gy E E E (r (mv E) ?_)))))
             refine spf 159 E (show (decide ((-1 : Int) < 0)) = true from (by decide)) ?_
             refine gn E E E (gn E E E (gn E E E (gy E E E (r (pk E E) (r (pk E E) (re (ct E (sq ?_))))))))
             refine gen (fun ρ=>ρ 0 = v∧ρ 3 = o1∧ρ 4=.int .i64 aq∧ρ 5=.int .i64 mz∧ρ 6=.int .i64 (j : Int)∧ρ 7=.int .i64 (-1)∧ρ 8=.int .i64 (i : Int)∧True) ⟨z0,z3,z4,z5,z6,z7,z8,trivial⟩ ?_
             rintro ρ ⟨z0, z3, z4, z5, z6, z7, z8, -⟩
             refine rg (r (sa E) (re (rt ?_)))
             exfalso; omega
            ·refine gn E E E (gn E E E (gn E E E (gu E E E (gu E E E (gu E E E (gn E E E (r (pk E E) (re (cf E (sk (be ?_)))))))))))
             refine gen (fun ρ=>ρ 0 = v∧ρ 3 = o1∧ρ 4=.int .i64 aq∧ρ 5=.int .i64 mz∧ρ 6=.int .i64 (j : Int)∧ρ 7=.int .i64 (-1)∧ρ 8=.int .i64 (i : Int)∧True) ⟨z0,z3,z4,z5,z6,z7,z8,trivial⟩ ?_
             rintro ρ ⟨z0, z3, z4, z5, z6, z7, z8, -⟩
             refine rg (r (mv z8) (r (ad (a := (i : Int)) (b := 1) ((i : Int) + 1) E E (by omega)) (r (sa E) (re ?_))))
             exact ag (i + 1) ⟨z0,z3,z4,z5,z6,z7,E,H4,by omega⟩ (by first | omega | (dsimp only; omega))
           ·refine gn E E E (gn E E E (gn E E E (gn E E E (gn E E E (r (pk E E) (r (mv E) (gn E E E (gn E E E (gn E E E (gu E E E (gu E E E (gu E E E (gn E E E (r (pk E E) (re (cf E (sk (be ?_))))))))))))))))))
            refine gen (fun ρ=>ρ 0 = v∧ρ 3 = o1∧ρ 4=.int .i64 aq∧ρ 5=.int .i64 mz∧ρ 6=.int .i64 (j : Int)∧ρ 7=.int .i64 (-1)∧ρ 8=.int .i64 (i : Int)∧True) ⟨z0,z3,z4,z5,z6,z7,z8,trivial⟩ ?_
            rintro ρ ⟨z0, z3, z4, z5, z6, z7, z8, -⟩
            refine rg (r (mv z8) (r (ad (a := (i : Int)) (b := 1) ((i : Int) + 1) E E (by omega)) (r (sa E) (re ?_))))
            exact ag (i + 1) ⟨z0,z3,z4,z5,z6,z7,E,H4,by omega⟩ (by first | omega | (dsimp only; omega))
         ·refine gn E E E (gn E E E (gn E E E (r (pk E E) (re (cf E (sk (sq ?_)))))))
          refine gen (fun ρ=>ρ 0 = v∧ρ 3 = o1∧ρ 4=.int .i64 aq∧ρ 5=.int .i64 mz∧ρ 6=.int .i64 (j : Int)∧ρ 7=.int .i64 (-1)∧ρ 8=.int .i64 (i : Int)∧True) ⟨y0,y3,y4,y5,y6,y7,y8,trivial⟩ ?_
          rintro ρ ⟨z0, z3, z4, z5, z6, z7, z8, -⟩
          refine rg (r (mv z8) (r (mv z4) (r (bi E E E) (r (mv E) ?_))))
          refine spn 149 E (fun k45 => ?_) (fun k45 => ?_)
          ·refine gy E E E (r (mv z3) (gy E E E (r (mv z8) (gy E E E ?_))))
           obtain ⟨c152_12, ad152_12, k152_12, e152_12, p152_12⟩ := Kd.R.place R9 i (hi')
           refine r (ix (j := i) Try.underlying22 ti2 e152_12 E (hi')) (gy E E E (r (ld Try.underlying2 E E p152_12.cell) (gy E E E (r (bi E E E) (r (pk E E) (r (mv E) ?_))))))
           refine sp 156 E (fun k46 => ?_) (fun k46 => ?_)
           ·refine gy E E E (r (mv z7) (gy E E E (r (bi E E E) (gy E E E (r (mv E) ?_)))))
            refine spf 159 E (show (decide ((-1 : Int) < 0)) = true from (by decide)) ?_
            refine gn E E E (gn E E E (gn E E E (gy E E E (r (pk E E) (r (pk E E) (re (ct E (sq ?_))))))))
            refine gen (fun ρ=>ρ 0 = v∧ρ 3 = o1∧ρ 4=.int .i64 aq∧ρ 5=.int .i64 mz∧ρ 6=.int .i64 (j : Int)∧ρ 7=.int .i64 (-1)∧ρ 8=.int .i64 (i : Int)∧True) ⟨z0,z3,z4,z5,z6,z7,z8,trivial⟩ ?_
            rintro ρ ⟨z0, z3, z4, z5, z6, z7, z8, -⟩
            refine rg (r (sa E) (re (rt ?_)))
            exfalso; omega
           ·refine gn E E E (gn E E E (gn E E E (gu E E E (gu E E E (gu E E E (gn E E E (r (pk E E) (re (cf E (sk (be ?_)))))))))))
            refine gen (fun ρ=>ρ 0 = v∧ρ 3 = o1∧ρ 4=.int .i64 aq∧ρ 5=.int .i64 mz∧ρ 6=.int .i64 (j : Int)∧ρ 7=.int .i64 (-1)∧ρ 8=.int .i64 (i : Int)∧True) ⟨z0,z3,z4,z5,z6,z7,z8,trivial⟩ ?_
            rintro ρ ⟨z0, z3, z4, z5, z6, z7, z8, -⟩
            refine rg (r (mv z8) (r (ad (a := (i : Int)) (b := 1) ((i : Int) + 1) E E (by omega)) (r (sa E) (re ?_))))
            exact ag (i + 1) ⟨z0,z3,z4,z5,z6,z7,E,H4,by omega⟩ (by first | omega | (dsimp only; omega))
          ·refine gn E E E (gn E E E (gn E E E (gn E E E (gn E E E (r (pk E E) (r (mv E) (gn E E E (gn E E E (gn E E E (gu E E E (gu E E E (gu E E E (gn E E E (r (pk E E) (re (cf E (sk (be ?_))))))))))))))))))
           refine gen (fun ρ=>ρ 0 = v∧ρ 3 = o1∧ρ 4=.int .i64 aq∧ρ 5=.int .i64 mz∧ρ 6=.int .i64 (j : Int)∧ρ 7=.int .i64 (-1)∧ρ 8=.int .i64 (i : Int)∧True) ⟨z0,z3,z4,z5,z6,z7,z8,trivial⟩ ?_
           rintro ρ ⟨z0, z3, z4, z5, z6, z7, z8, -⟩
           refine rg (r (mv z8) (r (ad (a := (i : Int)) (b := 1) ((i : Int) + 1) E E (by omega)) (r (sa E) (re ?_))))
           exact ag (i + 1) ⟨z0,z3,z4,z5,z6,z7,E,H4,by omega⟩ (by first | omega | (dsimp only; omega))
        ·refine gn E E E (gn E E E (gn E E E (gn E E E (gn E E E (gn E E E (r (pk E E) (r (mv E) (gn E E E (gn E E E (gn E E E (r (pk E E) (re (cf E (sk (sq ?_)))))))))))))))
         refine gen (fun ρ=>ρ 0 = v∧ρ 3 = o1∧ρ 4=.int .i64 aq∧ρ 5=.int .i64 mz∧ρ 6=.int .i64 (j : Int)∧ρ 7=.int .i64 (-1)∧ρ 8=.int .i64 (i : Int)∧True) ⟨y0,y3,y4,y5,y6,y7,y8,trivial⟩ ?_
         rintro ρ ⟨z0, z3, z4, z5, z6, z7, z8, -⟩
         refine rg (r (mv z8) (r (mv z4) (r (bi E E E) (r (mv E) ?_))))
         refine spn 149 E (fun k47 => ?_) (fun k47 => ?_)
         ·refine gy E E E (r (mv z3) (gy E E E (r (mv z8) (gy E E E ?_))))
          obtain ⟨c152_11, ad152_11, k152_11, e152_11, p152_11⟩ := Kd.R.place R9 i (hi')
          refine r (ix (j := i) Try.underlying22 ti2 e152_11 E (hi')) (gy E E E (r (ld Try.underlying2 E E p152_11.cell) (gy E E E (r (bi E E E) (r (pk E E) (r (mv E) ?_))))))
          refine sp 156 E (fun k48 => ?_) (fun k48 => ?_)
          ·refine gy E E E (r (mv z7) (gy E E E (r (bi E E E) (gy E E E (r (mv E) ?_)))))
           refine spf 159 E (show (decide ((-1 : Int) < 0)) = true from (by decide)) ?_
           refine gn E E E (gn E E E (gn E E E (gy E E E (r (pk E E) (r (pk E E) (re (ct E (sq ?_))))))))
           refine gen (fun ρ=>ρ 0 = v∧ρ 3 = o1∧ρ 4=.int .i64 aq∧ρ 5=.int .i64 mz∧ρ 6=.int .i64 (j : Int)∧ρ 7=.int .i64 (-1)∧ρ 8=.int .i64 (i : Int)∧True) ⟨z0,z3,z4,z5,z6,z7,z8,trivial⟩ ?_
           rintro ρ ⟨z0, z3, z4, z5, z6, z7, z8, -⟩
           refine rg (r (sa E) (re (rt ?_)))
           exfalso; omega
          ·refine gn E E E (gn E E E (gn E E E (gu E E E (gu E E E (gu E E E (gn E E E (r (pk E E) (re (cf E (sk (be ?_)))))))))))
           refine gen (fun ρ=>ρ 0 = v∧ρ 3 = o1∧ρ 4=.int .i64 aq∧ρ 5=.int .i64 mz∧ρ 6=.int .i64 (j : Int)∧ρ 7=.int .i64 (-1)∧ρ 8=.int .i64 (i : Int)∧True) ⟨z0,z3,z4,z5,z6,z7,z8,trivial⟩ ?_
           rintro ρ ⟨z0, z3, z4, z5, z6, z7, z8, -⟩
           refine rg (r (mv z8) (r (ad (a := (i : Int)) (b := 1) ((i : Int) + 1) E E (by omega)) (r (sa E) (re ?_))))
           exact ag (i + 1) ⟨z0,z3,z4,z5,z6,z7,E,H4,by omega⟩ (by first | omega | (dsimp only; omega))
         ·refine gn E E E (gn E E E (gn E E E (gn E E E (gn E E E (r (pk E E) (r (mv E) (gn E E E (gn E E E (gn E E E (gu E E E (gu E E E (gu E E E (gn E E E (r (pk E E) (re (cf E (sk (be ?_))))))))))))))))))
          refine gen (fun ρ=>ρ 0 = v∧ρ 3 = o1∧ρ 4=.int .i64 aq∧ρ 5=.int .i64 mz∧ρ 6=.int .i64 (j : Int)∧ρ 7=.int .i64 (-1)∧ρ 8=.int .i64 (i : Int)∧True) ⟨z0,z3,z4,z5,z6,z7,z8,trivial⟩ ?_
          rintro ρ ⟨z0, z3, z4, z5, z6, z7, z8, -⟩
          refine rg (r (mv z8) (r (ad (a := (i : Int)) (b := 1) ((i : Int) + 1) E E (by omega)) (r (sa E) (re ?_))))
          exact ag (i + 1) ⟨z0,z3,z4,z5,z6,z7,E,H4,by omega⟩ (by first | omega | (dsimp only; omega))
       ·refine gn E E E (gn E E E (gn E E E (gn E E E (gn E E E (r (pk E E) (r (mv E) (gn E E E (gn E E E (gn E E E (gn E E E (gn E E E (gn E E E (r (pk E E) (r (mv E) (gn E E E (gn E E E (gn E E E (r (pk E E) (re (cf E (sk (sq ?_))))))))))))))))))))))
        refine gen (fun ρ=>ρ 0 = v∧ρ 3 = o1∧ρ 4=.int .i64 aq∧ρ 5=.int .i64 mz∧ρ 6=.int .i64 (j : Int)∧ρ 7=.int .i64 (-1)∧ρ 8=.int .i64 (i : Int)∧True) ⟨y0,y3,y4,y5,y6,y7,y8,trivial⟩ ?_
        rintro ρ ⟨z0, z3, z4, z5, z6, z7, z8, -⟩
        refine rg (r (mv z8) (r (mv z4) (r (bi E E E) (r (mv E) ?_))))
        refine spn 149 E (fun k49 => ?_) (fun k49 => ?_)
        ·refine gy E E E (r (mv z3) (gy E E E (r (mv z8) (gy E E E ?_))))
         obtain ⟨c152_10, ad152_10, k152_10, e152_10, p152_10⟩ := Kd.R.place R9 i (hi')
         refine r (ix (j := i) Try.underlying22 ti2 e152_10 E (hi')) (gy E E E (r (ld Try.underlying2 E E p152_10.cell) (gy E E E (r (bi E E E) (r (pk E E) (r (mv E) ?_))))))
         refine sp 156 E (fun k50 => ?_) (fun k50 => ?_)
         ·refine gy E E E (r (mv z7) (gy E E E (r (bi E E E) (gy E E E (r (mv E) ?_)))))
          refine spf 159 E (show (decide ((-1 : Int) < 0)) = true from (by decide)) ?_
          refine gn E E E (gn E E E (gn E E E (gy E E E (r (pk E E) (r (pk E E) (re (ct E (sq ?_))))))))
          refine gen (fun ρ=>ρ 0 = v∧ρ 3 = o1∧ρ 4=.int .i64 aq∧ρ 5=.int .i64 mz∧ρ 6=.int .i64 (j : Int)∧ρ 7=.int .i64 (-1)∧ρ 8=.int .i64 (i : Int)∧True) ⟨z0,z3,z4,z5,z6,z7,z8,trivial⟩ ?_
          rintro ρ ⟨z0, z3, z4, z5, z6, z7, z8, -⟩
          refine rg (r (sa E) (re (rt ?_)))
          exfalso; omega
         ·refine gn E E E (gn E E E (gn E E E (gu E E E (gu E E E (gu E E E (gn E E E (r (pk E E) (re (cf E (sk (be ?_)))))))))))
          refine gen (fun ρ=>ρ 0 = v∧ρ 3 = o1∧ρ 4=.int .i64 aq∧ρ 5=.int .i64 mz∧ρ 6=.int .i64 (j : Int)∧ρ 7=.int .i64 (-1)∧ρ 8=.int .i64 (i : Int)∧True) ⟨z0,z3,z4,z5,z6,z7,z8,trivial⟩ ?_
          rintro ρ ⟨z0, z3, z4, z5, z6, z7, z8, -⟩
          refine rg (r (mv z8) (r (ad (a := (i : Int)) (b := 1) ((i : Int) + 1) E E (by omega)) (r (sa E) (re ?_))))
          exact ag (i + 1) ⟨z0,z3,z4,z5,z6,z7,E,H4,by omega⟩ (by first | omega | (dsimp only; omega))
        ·refine gn E E E (gn E E E (gn E E E (gn E E E (gn E E E (r (pk E E) (r (mv E) (gn E E E (gn E E E (gn E E E (gu E E E (gu E E E (gu E E E (gn E E E (r (pk E E) (re (cf E (sk (be ?_))))))))))))))))))
         refine gen (fun ρ=>ρ 0 = v∧ρ 3 = o1∧ρ 4=.int .i64 aq∧ρ 5=.int .i64 mz∧ρ 6=.int .i64 (j : Int)∧ρ 7=.int .i64 (-1)∧ρ 8=.int .i64 (i : Int)∧True) ⟨z0,z3,z4,z5,z6,z7,z8,trivial⟩ ?_
         rintro ρ ⟨z0, z3, z4, z5, z6, z7, z8, -⟩
         refine rg (r (mv z8) (r (ad (a := (i : Int)) (b := 1) ((i : Int) + 1) E E (by omega)) (r (sa E) (re ?_))))
         exact ag (i + 1) ⟨z0,z3,z4,z5,z6,z7,E,H4,by omega⟩ (by first | omega | (dsimp only; omega))
      ·refine ex E (sq (rg (r (mv y0) (cl go55 (DrawFreeLids (hx.t (Hold.ch H4)) lv ok) (ac E an) ?_))))
       rintro rtv wd2 ⟨t, nn, o2, rfl, ht, Hd2⟩
       have H5 : Hold w [] wd2 [rR i64 2 o1 cs, rR kE 70 o2 t] := Hold.news H4 Hd2
       clear H4
       clear Hd2
       refine r (mv E) (r (xt E E) (r (xt E E) (r (sa E) (r (sa E) (re (sq ?_))))))
       refine gen (fun ρ=>ρ 9 = o2∧ρ 10=.int .i64 nn∧True) ⟨E,E,trivial⟩ ?_
       rintro ρ ⟨z9, z10, -⟩
       obtain ⟨_, R12⟩ : ∃ F, Kd.R kE wd2 F o2 t := Hold.row H5 1 rfl
       refine rg (r (mv z9) (r (mv z10) (cl go47 (impl_FreeLids R12 (by omega)) (ac E (ac E an)) ?_)))
       rintro rfl_ wfl ⟨efl, Hfl⟩
       have H6 : Hold w [] wfl [rR i64 2 o1 cs, rR kE 70 o2 t, rR i64 efl rfl_ (flD t nn)] := Hold.news H5 Hfl
       clear H5
       clear Hfl
       refine r (sa E) (re (sq (rg (r (sa E) (re (sq (sq (rg (r (sa E) (re (bl ?_)))))))))))
       refine lp (α := Nat) (fun i ρ w' => ρ 9 = o2∧ρ 10=.int .i64 nn∧ρ 11 = rfl_∧ρ 12=.int .i64 ((freeN t i).length : Int)∧ρ 13=.int .i64 (i : Int)∧Hold w [] w' [rR i64 2 o1 cs,rR kE 70 o2 t,rR i64 efl rfl_ (flD t nn)]∧i ≤ t.length) (fun i => t.length - i) 0 ?_ ?_
       ·exact ⟨z9,z10,E,E,E,H6,by omega⟩
       clear H6
       rintro i ρ w507 ⟨y9, y10, y11, y12, y13, H7, hi2⟩
       obtain ⟨_, R13⟩ : ∃ F, Kd.R kE w507 F o2 t := Hold.row H7 1 rfl
       refine sq (sq (rg (r (mv y13) (r (mv y9) (r (ln Try.underlying57 E (R13)) (r (bi E E E) (re ?_)))))))
       refine cp E (fun hlt2 => ?_) (fun hlt2 => ?_)
       ·have hi3 : i < t.length := by omega
        have hfl := freeN_len t i
        refine sk (sq (bl (sq (rg (r (mv y9) (r (mv y13) ?_))))))
        obtain ⟨c181_14, ad181_14, k181_14, e181_14, p181_14⟩ := Kd.R.place R13 i (hi3)
        have q181_14 := en_at p181_14
        refine r (ix (j := i) Try.underlying57 ti70 e181_14 E (hi3)) (r (fa' Try.underlying70 E ti2 E E) (r (ld Try.underlying2 E E (q181_14 0 _ E)) (r (bi E E E) (re ?_))))
        refine cp E (fun hz => ?_) (fun hz => ?_)
        ·refine gen (fun ρ=>ρ 9 = o2∧ρ 10=.int .i64 nn∧ρ 11 = rfl_∧ρ 12=.int .i64 ((freeN t i).length : Int)∧ρ 13=.int .i64 (i : Int)∧True) ⟨y9,y10,y11,y12,y13,trivial⟩ ?_
         rintro ρ ⟨z9, z10, z11, z12, z13, -⟩
         refine rg (r (mv z12) (r (ad (a := ((freeN t i).length : Int)) (b := 1) (((freeN t (i + 1)).length : Int)) E E (by rw [freeN_yes hi3 hz]; simp; omega)) (r (sa E) (re (be (rg (r (mv z13) (r (ad (a := (i : Int)) (b := 1) ((i : Int) + 1) E E (by omega)) (r (sa E) (re ?_))))))))))
         exact ag (i + 1) ⟨z9,z10,z11,E,E,H7,by omega⟩ (by first | omega | (dsimp only; omega))
        ·refine sk (be ?_)
         refine gen (fun ρ=>ρ 9 = o2∧ρ 10=.int .i64 nn∧ρ 11 = rfl_∧ρ 12=.int .i64 ((freeN t i).length : Int)∧ρ 13=.int .i64 (i : Int)∧True) ⟨y9,y10,y11,y12,y13,trivial⟩ ?_
         rintro ρ ⟨z9, z10, z11, z12, z13, -⟩
         refine rg (r (mv z13) (r (ad (a := (i : Int)) (b := 1) ((i : Int) + 1) E E (by omega)) (r (sa E) (re ?_))))
         rw [← freeN_no hi3 hz] at z12
         exact ag (i + 1) ⟨z9,z10,z11,z12,E,H7,by omega⟩ (by first | omega | (dsimp only; omega))
       ·obtain rfl : i = t.length := by omega
        refine ex E (sq (sq (rg (r (mv y10) (r (bi E E E) (r (mv E) ?_))))))
        refine sp 189 E (fun hn1 => ?_) (fun hn1 => ?_)
        ·refine gn E E E (gn E E E (gn E E E (r (pk E E) (re (ct E (sq ?_))))))
         refine gen (fun ρ=>ρ 9 = o2∧ρ 10=.int .i64 nn∧ρ 11 = rfl_∧True) ⟨y9,y10,y11,trivial⟩ ?_
         rintro ρ ⟨z9, z10, z11, -⟩
         obtain ⟨_, R14⟩ : ∃ F, Kd.R i64 w507 F rfl_ (flD t nn) := Hold.row H7 2 rfl
         refine rg (r (mv z11) (r (ln Try.underlying22 E (R14)) (r (bi E E E) (r (sa E) (re (rt ?_))))))
         exact fin1 (v := .bool (decide (((flD t nn).length : Int) = 0))) Try.results10 E ⟨congrArg Value.bool (by rw [flD_nil (.inl hn1)]; simp),Hold.ch H7⟩
        ·refine gy E E E (r (mv y10) (gy E E E (r (mv y12) (gy E E E (r (bi E E E) (r (pk E E) (re ?_)))))))
         refine cp E (fun hn2 => ?_) (fun hn2 => ?_)
         ·refine sq ?_
          refine gen (fun ρ=>ρ 9 = o2∧ρ 10=.int .i64 nn∧ρ 11 = rfl_∧True) ⟨y9,y10,y11,trivial⟩ ?_
          rintro ρ ⟨z9, z10, z11, -⟩
          obtain ⟨_, R14⟩ : ∃ F, Kd.R i64 w507 F rfl_ (flD t nn) := Hold.row H7 2 rfl
          refine rg (r (mv z11) (r (ln Try.underlying22 E (R14)) (r (bi E E E) (r (sa E) (re (rt ?_))))))
          exact fin1 (v := .bool (decide (((flD t nn).length : Int) = 0))) Try.results10 E ⟨congrArg Value.bool (by rw [flD_nil (.inr (by omega))]; simp),Hold.ch H7⟩
         ·obtain ⟨hF1, hF2⟩ := flD_full (t := t) (n := nn) (by omega) (by omega)
          refine sk (sq (sq ?_))
          refine gen (fun ρ=>ρ 9 = o2∧ρ 10=.int .i64 nn∧ρ 11 = rfl_∧True) ⟨y9,y10,y11,trivial⟩ ?_
          rintro ρ ⟨z9, z10, z11, -⟩
          obtain ⟨_, R14⟩ : ∃ F, Kd.R i64 w507 F rfl_ (flD t nn) := Hold.row H7 2 rfl
          refine rg (r (mv z11) (r (ln Try.underlying22 E (R14)) (r (mv z10) (r (bi E E E) (re ?_)))))
          refine cf ((E : _ = Value.bool (!decide (((flD t nn).length : Int) = nn))).trans (congrArg Value.bool (show (!decide (((flD t nn).length : Int) = nn)) = false from (by rw [decide_eq_true hF1]; rfl)))) ?_
          refine sk (sq (rg (r (sa E) (re (sq (sq (rg (r (sa E) (re (bl ?_))))))))))
          refine lp (α := Nat) (fun i ρ w' => ρ 9 = o2∧ρ 10=.int .i64 nn∧ρ 11 = rfl_∧ρ 14=.int .i64 ((freeN t i).length : Int)∧ρ 15=.int .i64 (i : Int)∧Hold w [] w' [rR i64 2 o1 cs,rR kE 70 o2 t,rR i64 efl rfl_ (flD t nn)]∧i ≤ t.length) (fun i => t.length - i) 0 ?_ ?_
          ·exact ⟨z9,z10,z11,E,E,H7,by omega⟩
          clear H7
          rintro i ρ w508 ⟨y9, y10, y11, y14, y15, H8, hi2⟩
          obtain ⟨_, R15⟩ : ∃ F, Kd.R kE w508 F o2 t := Hold.row H8 1 rfl
          refine sq (sq (rg (r (mv y15) (r (mv y9) (r (ln Try.underlying57 E (R15)) (r (bi E E E) (r (mv E) ?_)))))))
          refine sp 205 E (fun hm1 => ?_) (fun hm1 => ?_)
          ·refine gy E E E (r (mv y14) (gy E E E (r (mv y10) (gy E E E (r (bi E E E) (r (pk E E) (re ?_)))))))
           refine cp E (fun hm2 => ?_) (fun hm2 => ?_)
           ·have hi3 : i < t.length := by omega
            have hfl := freeN_len t i
            refine sk (sq (bl (sq (rg (r (mv y9) (r (mv y15) ?_))))))
            obtain ⟨c214_16, ad214_16, k214_16, e214_16, p214_16⟩ := Kd.R.place R15 i (hi3)
            have q214_16 := en_at p214_16
            refine r (ix (j := i) Try.underlying57 ti70 e214_16 E (hi3)) (r (fa' Try.underlying70 E ti2 E E) (r (ld Try.underlying2 E E (q214_16 0 _ E)) (r (bi E E E) (re ?_))))
            refine cp E (fun hz => ?_) (fun hz => ?_)
            ·have hkl : (freeN t i).length < (flD t nn).length := by omega
             have hAt : (flD t nn)[(freeN t i).length] = (i : Int) + 1 := by
              have h9 := (hF2 _ hm2).trans (freeN_at hi3 hz)
              rw [List.getElem?_eq_getElem hkl] at h9; exact Option.some.inj h9
             obtain ⟨kk, hkk⟩ : ∃ k, k = (freeN t i).length := ⟨_, rfl⟩
             refine sq (sq ?_)
             refine gen (fun ρ=>ρ 9 = o2∧ρ 10=.int .i64 nn∧ρ 11 = rfl_∧ρ 14=.int .i64 ((freeN t i).length : Int)∧ρ 15=.int .i64 (i : Int)∧True) ⟨y9,y10,y11,y14,y15,trivial⟩ ?_
             rintro ρ ⟨z9, z10, z11, z14, z15, -⟩
             obtain ⟨_, R17⟩ : ∃ F, Kd.R i64 w508 F rfl_ (flD t nn) := Hold.row H8 2 rfl
             refine rg (r (mv z11) (r (mv z14) ?_))
             obtain ⟨c220_18, ad220_18, k220_18, e220_18, p220_18⟩ := Kd.R.place R17 ((freeN t i).length) (hkl)
             refine r (ix (j := (freeN t i).length) Try.underlying22 ti2 e220_18 E (hkl)) (r (ld Try.underlying2 E E p220_18.cell) (r (mv z15) (r (ad (a := (i : Int)) (b := 1) ((i : Int) + 1) E E (by omega)) (r (bi E E E) (re ?_)))))
             refine cf ((E : _ = Value.bool (!decide (((flD t nn)[(freeN t i).length]) = ((i : Int) + 1)))).trans (congrArg Value.bool (show (!decide (((flD t nn)[(freeN t i).length]) = ((i : Int) + 1))) = false from (by rw [decide_eq_true hAt]; rfl)))) ?_
             refine sk (rg (r (mv z14) (r (ad (a := ((freeN t i).length : Int)) (b := 1) (((freeN t (i + 1)).length : Int)) E E (by rw [freeN_yes hi3 hz]; simp; omega)) (r (sa E) (re (be ?_))))))
             refine gen (fun ρ=>ρ 9 = o2∧ρ 10=.int .i64 nn∧ρ 11 = rfl_∧ρ 14=.int .i64 ((freeN t (i + 1)).length : Int)∧ρ 15=.int .i64 (i : Int)∧True) ⟨z9,z10,z11,E,z15,trivial⟩ ?_
             rintro ρ ⟨z9, z10, z11, z14, z15, -⟩
             refine rg (r (mv z15) (r (ad (a := (i : Int)) (b := 1) ((i : Int) + 1) E E (by omega)) (r (sa E) (re ?_))))
             exact ag (i + 1) ⟨z9,z10,z11,z14,E,H8,by omega⟩ (by first | omega | (dsimp only; omega))
            ·refine sk (be ?_)
             refine gen (fun ρ=>ρ 9 = o2∧ρ 10=.int .i64 nn∧ρ 11 = rfl_∧ρ 14=.int .i64 ((freeN t i).length : Int)∧ρ 15=.int .i64 (i : Int)∧True) ⟨y9,y10,y11,y14,y15,trivial⟩ ?_
             rintro ρ ⟨z9, z10, z11, z14, z15, -⟩
             refine rg (r (mv z15) (r (ad (a := (i : Int)) (b := 1) ((i : Int) + 1) E E (by omega)) (r (sa E) (re ?_))))
             rw [← freeN_no hi3 hz] at z14
             exact ag (i + 1) ⟨z9,z10,z11,z14,E,H8,by omega⟩ (by first | omega | (dsimp only; omega))
           ·refine ex E (sq (rg (r (sa E) (re (rt ?_)))))
            exact fin1 (v := .bool true) Try.results10 E ⟨E,Hold.ch H8⟩
          ·refine gn E E E (gn E E E (gn E E E (r (pk E E) (re (cf E (ex E (sq (rg (r (sa E) (re (rt ?_)))))))))))
           exact fin1 (v := .bool true) Try.results10 E ⟨E,Hold.ch H8⟩
     ·refine gn E E E (gn E E E (gn E E E (gn E E E (gu E E E (gu E E E (gu E E E (gu E E E (gu E E E (gn E E E (gn E E E (gu E E E (gu E E E (gu E E E (gu E E E (gu E E E (gu E E E (gn E E E (r (pk E E) (r (mv E) (gy E E E (r (mv z7) (gy E E E (r (bi E E E) (gy E E E (r (mv E) ?_)))))))))))))))))))))))))
      refine spf 75 E (show (decide (0 ≤ (-1 : Int))) = false from (by decide)) ?_
      refine gn E E E (gn E E E (gn E E E (gn E E E (gu E E E (gu E E E (gu E E E (gu E E E (gu E E E (gn E E E (gy E E E (r (pk E E) (r (pk E E) (re (cf E (sk (sq (sq ?_)))))))))))))))))
      refine gen (fun ρ=>ρ 0 = v∧ρ 2=.bool false∧ρ 3 = o1∧ρ 4=.int .i64 aq∧ρ 5=.int .i64 mz∧ρ 6=.int .i64 (j : Int)∧ρ 7=.int .i64 (-1)∧True) ⟨z0,z2,z3,z4,z5,z6,z7,trivial⟩ ?_
      rintro ρ ⟨z0, z2, z3, z4, z5, z6, z7, -⟩
      refine rg (r (sa E) (re (bl ?_)))
      refine lp (α := Nat) (fun i ρ w' => ρ 0 = v∧ρ 3 = o1∧ρ 4=.int .i64 aq∧ρ 5=.int .i64 mz∧ρ 6=.int .i64 (j : Int)∧ρ 7=.int .i64 (-1)∧ρ 8=.int .i64 (i : Int)∧Hold w [] w' [rR i64 2 o1 cs]∧i ≤ cs.length) (fun i => cs.length - i) 0 ?_ ?_
      ·exact ⟨z0,z3,z4,z5,z6,z7,E,H3,by omega⟩
      clear H3
      rintro i ρ w504 ⟨y0, y3, y4, y5, y6, y7, y8, H4, hi⟩
      obtain ⟨_, R7⟩ : ∃ F, Kd.R i64 w504 F o1 cs := Hold.row H4 0 rfl
      refine sq (sq (rg (r (mv y8) (r (mv y3) (r (ln Try.underlying22 E (R7)) (r (bi E E E) (re ?_)))))))
      refine cp E (fun hlt => ?_) (fun hlt => ?_)
      ·have hi' : i < cs.length := by omega
       have hvi := hjm i hi'
       simp only [inside_iff] at hvi
       have hwi : ¬ (i : Int) = aq → ¬ cs[i] = 0 := fun h => by have := hWn i hi' h; simpa using this
       refine sk (sq (bl (sq (sq (rg (r (mv y8) (r (mv y4) (r (bi E E E) (r (mv E) ?_)))))))))
       refine spn 97 E (fun k51 => ?_) (fun k51 => ?_)
       ·refine gy E E E (r (mv y3) (gy E E E (r (mv y8) (gy E E E ?_))))
        obtain ⟨c100_8, ad100_8, k100_8, e100_8, p100_8⟩ := Kd.R.place R7 i (hi')
        refine r (ix (j := i) Try.underlying22 ti2 e100_8 E (hi')) (gy E E E (r (ld Try.underlying2 E E p100_8.cell) (gy E E E (r (bi E E E) (r (pk E E) (r (mv E) ?_))))))
        refine sp 104 E (fun k52 => ?_) (fun k52 => ?_)
        ·refine gy E E E (r (mv y3) (gy E E E (r (mv y8) (gy E E E ?_))))
         obtain ⟨c107_9, ad107_9, k107_9, e107_9, p107_9⟩ := Kd.R.place R7 i (hi')
         refine r (ix (j := i) Try.underlying22 ti2 e107_9 E (hi')) (gy E E E (r (ld Try.underlying2 E E p107_9.cell) (gy E E E (r (mv y5) (gy E E E (r (bi E E E) (r (pk E E) (r (mv E) ?_))))))))
         refine sp 112 E (fun k53 => ?_) (fun k53 => ?_)
         ·refine gy E E E (r (mv y8) (gy E E E (r (mv y6) (gy E E E (r (bi E E E) (r (pk E E) (re ?_)))))))
          refine cpn E (fun k54 => ?_) (fun k54 => ?_)
          ·refine sq ?_
           refine gen (fun ρ=>ρ 0 = v∧ρ 3 = o1∧ρ 4=.int .i64 aq∧ρ 5=.int .i64 mz∧ρ 6=.int .i64 (j : Int)∧ρ 7=.int .i64 (-1)∧ρ 8=.int .i64 (i : Int)∧True) ⟨y0,y3,y4,y5,y6,y7,y8,trivial⟩ ?_
           rintro ρ ⟨z0, z3, z4, z5, z6, z7, z8, -⟩
           refine rd mixed (by kernel_rfl) (q (mv z6) (q (bi E E E) (q (mv E) ?_)))
           refine spfq 119 E (show (decide ((j : Int) < 0)) = false from (decide_eq_false (by omega))) ?_
           refine gyq E E E (q (mv z3) (gyq E E E (q (mv z8) (gyq E E E ?_))))
           obtain ⟨c122_10, ad122_10, k122_10, e122_10, p122_10⟩ := Kd.R.place R7 i (hi')
           refine q (ix (j := i) Try.underlying22 ti2 e122_10 E (hi')) (gyq E E E (q (ld Try.underlying2 E E p122_10.cell) (gyq E E E (q (mv z3) (gyq E E E (q (mv z6) (gyq E E E ?_)))))))
           obtain ⟨c126_11, ad126_11, k126_11, e126_11, p126_11⟩ := Kd.R.place R7 j (hj)
           refine q (ix (j := j) Try.underlying22 ti2 e126_11 E (hj)) (gyq E E E (q (ld Try.underlying2 E E p126_11.cell) (gyq E E E (q (bi E E E) (q (pk E E) (q (mv E) ?_))))))
           refine spfq 130 E (show (decide ((cs[i]) < (cs[j]))) = false from (decide_eq_false (by omega))) ?_
           refine gyq E E E (q (mv z3) (gyq E E E (q (mv z8) (gyq E E E ?_))))
           obtain ⟨c133_12, ad133_12, k133_12, e133_12, p133_12⟩ := Kd.R.place R7 i (hi')
           refine q (ix (j := i) Try.underlying22 ti2 e133_12 E (hi')) (gyq E E E (q (ld Try.underlying2 E E p133_12.cell) (gyq E E E (q (mv z3) (gyq E E E (q (mv z6) (gyq E E E ?_)))))))
           obtain ⟨c137_13, ad137_13, k137_13, e137_13, p137_13⟩ := Kd.R.place R7 j (hj)
           refine q (ix (j := j) Try.underlying22 ti2 e137_13 E (hj)) (gyq E E E (q (ld Try.underlying2 E E p137_13.cell) (gyq E E E (q (bi E E E) (gyq E E E (q (mv E) ?_))))))
           refine spq 140 E (fun k55 => ?_) (fun k55 => ?_)
           ·refine gyq E E E (q (mv z8) (gyq E E E (q (mv z6) (gyq E E E (q (bi E E E) (gyq E E E (q (pk E E) (q (pk E E) (me ?_)))))))))
            intro w1 c1
            have H5 : Hold w [] w1 [rR i64 2 o1 cs] := Hold.t H4 c1
            clear H4
            refine cf ((E : _ = Value.bool (decide ((i : Int) < (j : Int)))).trans (congrArg Value.bool (show (decide ((i : Int) < (j : Int))) = false from (decide_eq_false (by omega))))) ?_
            refine sk (sq ?_)
            refine gen (fun ρ=>ρ 0 = v∧ρ 3 = o1∧ρ 4=.int .i64 aq∧ρ 5=.int .i64 mz∧ρ 6=.int .i64 (j : Int)∧ρ 7=.int .i64 (-1)∧ρ 8=.int .i64 (i : Int)∧True) ⟨z0,z3,z4,z5,z6,z7,z8,trivial⟩ ?_
            rintro ρ ⟨z0, z3, z4, z5, z6, z7, z8, -⟩
            refine rg (r (mv z8) (r (mv z4) (r (bi E E E) (r (mv E) ?_))))
            refine spn 149 E (fun k56 => ?_) (fun k56 => ?_)
            ·obtain ⟨_, R14⟩ : ∃ F, Kd.R i64 w1 F o1 cs := Hold.row H5 0 rfl
             refine gy E E E (r (mv z3) (gy E E E (r (mv z8) (gy E E E ?_))))
             obtain ⟨c152_15, ad152_15, k152_15, e152_15, p152_15⟩ := Kd.R.place R14 i (hi')
             refine r (ix (j := i) Try.underlying22 ti2 e152_15 E (hi')) (gy E E E (r (ld Try.underlying2 E E p152_15.cell) (gy E E E (r (bi E E E) (r (pk E E) (r (mv E) ?_))))))
             refine sp 156 E (fun k57 => ?_) (fun k57 => ?_)
             ·refine gy E E E (r (mv z7) (gy E E E (r (bi E E E) (gy E E E (r (mv E) ?_)))))
              refine spf 159 E (show (decide ((-1 : Int) < 0)) = true from (by decide)) ?_
              refine gn E E E (gn E E E (gn E E E (gy E E E (r (pk E E) (r (pk E E) (re (ct E (sq ?_))))))))
              refine gen (fun ρ=>ρ 0 = v∧ρ 3 = o1∧ρ 4=.int .i64 aq∧ρ 5=.int .i64 mz∧ρ 6=.int .i64 (j : Int)∧ρ 7=.int .i64 (-1)∧ρ 8=.int .i64 (i : Int)∧True) ⟨z0,z3,z4,z5,z6,z7,z8,trivial⟩ ?_
              rintro ρ ⟨z0, z3, z4, z5, z6, z7, z8, -⟩
              refine rg (r (sa E) (re (rt ?_)))
              exfalso; omega
             ·refine gn E E E (gn E E E (gn E E E (gu E E E (gu E E E (gu E E E (gn E E E (r (pk E E) (re (cf E (sk (be ?_)))))))))))
              refine gen (fun ρ=>ρ 0 = v∧ρ 3 = o1∧ρ 4=.int .i64 aq∧ρ 5=.int .i64 mz∧ρ 6=.int .i64 (j : Int)∧ρ 7=.int .i64 (-1)∧ρ 8=.int .i64 (i : Int)∧True) ⟨z0,z3,z4,z5,z6,z7,z8,trivial⟩ ?_
              rintro ρ ⟨z0, z3, z4, z5, z6, z7, z8, -⟩
              refine rg (r (mv z8) (r (ad (a := (i : Int)) (b := 1) ((i : Int) + 1) E E (by omega)) (r (sa E) (re ?_))))
              exact ag (i + 1) ⟨z0,z3,z4,z5,z6,z7,E,H5,by omega⟩ (by first | omega | (dsimp only; omega))
            ·refine gn E E E (gn E E E (gn E E E (gn E E E (gn E E E (r (pk E E) (r (mv E) (gn E E E (gn E E E (gn E E E (gu E E E (gu E E E (gu E E E (gn E E E (r (pk E E) (re (cf E (sk (be ?_))))))))))))))))))
             refine gen (fun ρ=>ρ 0 = v∧ρ 3 = o1∧ρ 4=.int .i64 aq∧ρ 5=.int .i64 mz∧ρ 6=.int .i64 (j : Int)∧ρ 7=.int .i64 (-1)∧ρ 8=.int .i64 (i : Int)∧True) ⟨z0,z3,z4,z5,z6,z7,z8,trivial⟩ ?_
             rintro ρ ⟨z0, z3, z4, z5, z6, z7, z8, -⟩
             refine rg (r (mv z8) (r (ad (a := (i : Int)) (b := 1) ((i : Int) + 1) E E (by omega)) (r (sa E) (re ?_))))
             exact ag (i + 1) ⟨z0,z3,z4,z5,z6,z7,E,H5,by omega⟩ (by first | omega | (dsimp only; omega))
           ·refine gnq E E E (gnq E E E (gnq E E E (gyq E E E (q (pk E E) (q (pk E E) (me ?_))))))
            intro w1 c1
            have H5 : Hold w [] w1 [rR i64 2 o1 cs] := Hold.t H4 c1
            clear H4
            refine cf E (sk (sq ?_))
            refine gen (fun ρ=>ρ 0 = v∧ρ 3 = o1∧ρ 4=.int .i64 aq∧ρ 5=.int .i64 mz∧ρ 6=.int .i64 (j : Int)∧ρ 7=.int .i64 (-1)∧ρ 8=.int .i64 (i : Int)∧True) ⟨z0,z3,z4,z5,z6,z7,z8,trivial⟩ ?_
            rintro ρ ⟨z0, z3, z4, z5, z6, z7, z8, -⟩
            refine rg (r (mv z8) (r (mv z4) (r (bi E E E) (r (mv E) ?_))))
            refine spn 149 E (fun k58 => ?_) (fun k58 => ?_)
            ·obtain ⟨_, R14⟩ : ∃ F, Kd.R i64 w1 F o1 cs := Hold.row H5 0 rfl
             refine gy E E E (r (mv z3) (gy E E E (r (mv z8) (gy E E E ?_))))
             obtain ⟨c152_15, ad152_15, k152_15, e152_15, p152_15⟩ := Kd.R.place R14 i (hi')
             refine r (ix (j := i) Try.underlying22 ti2 e152_15 E (hi')) (gy E E E (r (ld Try.underlying2 E E p152_15.cell) (gy E E E (r (bi E E E) (r (pk E E) (r (mv E) ?_))))))
             refine sp 156 E (fun k59 => ?_) (fun k59 => ?_)
             ·refine gy E E E (r (mv z7) (gy E E E (r (bi E E E) (gy E E E (r (mv E) ?_)))))
              refine spf 159 E (show (decide ((-1 : Int) < 0)) = true from (by decide)) ?_
              refine gn E E E (gn E E E (gn E E E (gy E E E (r (pk E E) (r (pk E E) (re (ct E (sq ?_))))))))
              refine gen (fun ρ=>ρ 0 = v∧ρ 3 = o1∧ρ 4=.int .i64 aq∧ρ 5=.int .i64 mz∧ρ 6=.int .i64 (j : Int)∧ρ 7=.int .i64 (-1)∧ρ 8=.int .i64 (i : Int)∧True) ⟨z0,z3,z4,z5,z6,z7,z8,trivial⟩ ?_
              rintro ρ ⟨z0, z3, z4, z5, z6, z7, z8, -⟩
              refine rg (r (sa E) (re (rt ?_)))
              exfalso; omega
             ·refine gn E E E (gn E E E (gn E E E (gu E E E (gu E E E (gu E E E (gn E E E (r (pk E E) (re (cf E (sk (be ?_)))))))))))
              refine gen (fun ρ=>ρ 0 = v∧ρ 3 = o1∧ρ 4=.int .i64 aq∧ρ 5=.int .i64 mz∧ρ 6=.int .i64 (j : Int)∧ρ 7=.int .i64 (-1)∧ρ 8=.int .i64 (i : Int)∧True) ⟨z0,z3,z4,z5,z6,z7,z8,trivial⟩ ?_
              rintro ρ ⟨z0, z3, z4, z5, z6, z7, z8, -⟩
              refine rg (r (mv z8) (r (ad (a := (i : Int)) (b := 1) ((i : Int) + 1) E E (by omega)) (r (sa E) (re ?_))))
              exact ag (i + 1) ⟨z0,z3,z4,z5,z6,z7,E,H5,by omega⟩ (by first | omega | (dsimp only; omega))
            ·refine gn E E E (gn E E E (gn E E E (gn E E E (gn E E E (r (pk E E) (r (mv E) (gn E E E (gn E E E (gn E E E (gu E E E (gu E E E (gu E E E (gn E E E (r (pk E E) (re (cf E (sk (be ?_))))))))))))))))))
             refine gen (fun ρ=>ρ 0 = v∧ρ 3 = o1∧ρ 4=.int .i64 aq∧ρ 5=.int .i64 mz∧ρ 6=.int .i64 (j : Int)∧ρ 7=.int .i64 (-1)∧ρ 8=.int .i64 (i : Int)∧True) ⟨z0,z3,z4,z5,z6,z7,z8,trivial⟩ ?_
             rintro ρ ⟨z0, z3, z4, z5, z6, z7, z8, -⟩
             refine rg (r (mv z8) (r (ad (a := (i : Int)) (b := 1) ((i : Int) + 1) E E (by omega)) (r (sa E) (re ?_))))
             exact ag (i + 1) ⟨z0,z3,z4,z5,z6,z7,E,H5,by omega⟩ (by first | omega | (dsimp only; omega))
          ·refine sk (sq ?_)
           refine gen (fun ρ=>ρ 0 = v∧ρ 3 = o1∧ρ 4=.int .i64 aq∧ρ 5=.int .i64 mz∧ρ 6=.int .i64 (j : Int)∧ρ 7=.int .i64 (-1)∧ρ 8=.int .i64 (i : Int)∧True) ⟨y0,y3,y4,y5,y6,y7,y8,trivial⟩ ?_
           rintro ρ ⟨z0, z3, z4, z5, z6, z7, z8, -⟩
           refine rg (r (mv z8) (r (mv z4) (r (bi E E E) (r (mv E) ?_))))
           refine spn 149 E (fun k60 => ?_) (fun k60 => ?_)
           ·refine gy E E E (r (mv z3) (gy E E E (r (mv z8) (gy E E E ?_))))
            obtain ⟨c152_10, ad152_10, k152_10, e152_10, p152_10⟩ := Kd.R.place R7 i (hi')
            refine r (ix (j := i) Try.underlying22 ti2 e152_10 E (hi')) (gy E E E (r (ld Try.underlying2 E E p152_10.cell) (gy E E E (r (bi E E E) (r (pk E E) (r (mv E) ?_))))))
            refine sp 156 E (fun k61 => ?_) (fun k61 => ?_)
            ·refine gy E E E (r (mv z7) (gy E E E (r (bi E E E) (gy E E E (r (mv E) ?_)))))
             refine spf 159 E (show (decide ((-1 : Int) < 0)) = true from (by decide)) ?_
             refine gn E E E (gn E E E (gn E E E (gy E E E (r (pk E E) (r (pk E E) (re (ct E (sq ?_))))))))
             refine gen (fun ρ=>ρ 0 = v∧ρ 3 = o1∧ρ 4=.int .i64 aq∧ρ 5=.int .i64 mz∧ρ 6=.int .i64 (j : Int)∧ρ 7=.int .i64 (-1)∧ρ 8=.int .i64 (i : Int)∧True) ⟨z0,z3,z4,z5,z6,z7,z8,trivial⟩ ?_
             rintro ρ ⟨z0, z3, z4, z5, z6, z7, z8, -⟩
             refine rg (r (sa E) (re (rt ?_)))
             exfalso; omega
            ·refine gn E E E (gn E E E (gn E E E (gu E E E (gu E E E (gu E E E (gn E E E (r (pk E E) (re (cf E (sk (be ?_)))))))))))
             refine gen (fun ρ=>ρ 0 = v∧ρ 3 = o1∧ρ 4=.int .i64 aq∧ρ 5=.int .i64 mz∧ρ 6=.int .i64 (j : Int)∧ρ 7=.int .i64 (-1)∧ρ 8=.int .i64 (i : Int)∧True) ⟨z0,z3,z4,z5,z6,z7,z8,trivial⟩ ?_
             rintro ρ ⟨z0, z3, z4, z5, z6, z7, z8, -⟩
             refine rg (r (mv z8) (r (ad (a := (i : Int)) (b := 1) ((i : Int) + 1) E E (by omega)) (r (sa E) (re ?_))))
             exact ag (i + 1) ⟨z0,z3,z4,z5,z6,z7,E,H4,by omega⟩ (by first | omega | (dsimp only; omega))
           ·refine gn E E E (gn E E E (gn E E E (gn E E E (gn E E E (r (pk E E) (r (mv E) (gn E E E (gn E E E (gn E E E (gu E E E (gu E E E (gu E E E (gn E E E (r (pk E E) (re (cf E (sk (be ?_))))))))))))))))))
            refine gen (fun ρ=>ρ 0 = v∧ρ 3 = o1∧ρ 4=.int .i64 aq∧ρ 5=.int .i64 mz∧ρ 6=.int .i64 (j : Int)∧ρ 7=.int .i64 (-1)∧ρ 8=.int .i64 (i : Int)∧True) ⟨z0,z3,z4,z5,z6,z7,z8,trivial⟩ ?_
            rintro ρ ⟨z0, z3, z4, z5, z6, z7, z8, -⟩
            refine rg (r (mv z8) (r (ad (a := (i : Int)) (b := 1) ((i : Int) + 1) E E (by omega)) (r (sa E) (re ?_))))
            exact ag (i + 1) ⟨z0,z3,z4,z5,z6,z7,E,H4,by omega⟩ (by first | omega | (dsimp only; omega))
         ·refine gn E E E (gn E E E (gn E E E (r (pk E E) (re (cf E (sk (sq ?_)))))))
          refine gen (fun ρ=>ρ 0 = v∧ρ 3 = o1∧ρ 4=.int .i64 aq∧ρ 5=.int .i64 mz∧ρ 6=.int .i64 (j : Int)∧ρ 7=.int .i64 (-1)∧ρ 8=.int .i64 (i : Int)∧True) ⟨y0,y3,y4,y5,y6,y7,y8,trivial⟩ ?_
          rintro ρ ⟨z0, z3, z4, z5, z6, z7, z8, -⟩
          refine rg (r (mv z8) (r (mv z4) (r (bi E E E) (r (mv E) ?_))))
          refine spn 149 E (fun k62 => ?_) (fun k62 => ?_)
          ·refine gy E E E (r (mv z3) (gy E E E (r (mv z8) (gy E E E ?_))))
           obtain ⟨c152_10, ad152_10, k152_10, e152_10, p152_10⟩ := Kd.R.place R7 i (hi')
           refine r (ix (j := i) Try.underlying22 ti2 e152_10 E (hi')) (gy E E E (r (ld Try.underlying2 E E p152_10.cell) (gy E E E (r (bi E E E) (r (pk E E) (r (mv E) ?_))))))
           refine sp 156 E (fun k63 => ?_) (fun k63 => ?_)
           ·refine gy E E E (r (mv z7) (gy E E E (r (bi E E E) (gy E E E (r (mv E) ?_)))))
            refine spf 159 E (show (decide ((-1 : Int) < 0)) = true from (by decide)) ?_
            refine gn E E E (gn E E E (gn E E E (gy E E E (r (pk E E) (r (pk E E) (re (ct E (sq ?_))))))))
            refine gen (fun ρ=>ρ 0 = v∧ρ 3 = o1∧ρ 4=.int .i64 aq∧ρ 5=.int .i64 mz∧ρ 6=.int .i64 (j : Int)∧ρ 7=.int .i64 (-1)∧ρ 8=.int .i64 (i : Int)∧True) ⟨z0,z3,z4,z5,z6,z7,z8,trivial⟩ ?_
            rintro ρ ⟨z0, z3, z4, z5, z6, z7, z8, -⟩
            refine rg (r (sa E) (re (rt ?_)))
            exfalso; omega
           ·refine gn E E E (gn E E E (gn E E E (gu E E E (gu E E E (gu E E E (gn E E E (r (pk E E) (re (cf E (sk (be ?_)))))))))))
            refine gen (fun ρ=>ρ 0 = v∧ρ 3 = o1∧ρ 4=.int .i64 aq∧ρ 5=.int .i64 mz∧ρ 6=.int .i64 (j : Int)∧ρ 7=.int .i64 (-1)∧ρ 8=.int .i64 (i : Int)∧True) ⟨z0,z3,z4,z5,z6,z7,z8,trivial⟩ ?_
            rintro ρ ⟨z0, z3, z4, z5, z6, z7, z8, -⟩
            refine rg (r (mv z8) (r (ad (a := (i : Int)) (b := 1) ((i : Int) + 1) E E (by omega)) (r (sa E) (re ?_))))
            exact ag (i + 1) ⟨z0,z3,z4,z5,z6,z7,E,H4,by omega⟩ (by first | omega | (dsimp only; omega))
          ·refine gn E E E (gn E E E (gn E E E (gn E E E (gn E E E (r (pk E E) (r (mv E) (gn E E E (gn E E E (gn E E E (gu E E E (gu E E E (gu E E E (gn E E E (r (pk E E) (re (cf E (sk (be ?_))))))))))))))))))
           refine gen (fun ρ=>ρ 0 = v∧ρ 3 = o1∧ρ 4=.int .i64 aq∧ρ 5=.int .i64 mz∧ρ 6=.int .i64 (j : Int)∧ρ 7=.int .i64 (-1)∧ρ 8=.int .i64 (i : Int)∧True) ⟨z0,z3,z4,z5,z6,z7,z8,trivial⟩ ?_
           rintro ρ ⟨z0, z3, z4, z5, z6, z7, z8, -⟩
           refine rg (r (mv z8) (r (ad (a := (i : Int)) (b := 1) ((i : Int) + 1) E E (by omega)) (r (sa E) (re ?_))))
           exact ag (i + 1) ⟨z0,z3,z4,z5,z6,z7,E,H4,by omega⟩ (by first | omega | (dsimp only; omega))
        ·refine gn E E E (gn E E E (gn E E E (gn E E E (gn E E E (gn E E E (r (pk E E) (r (mv E) (gn E E E (gn E E E (gn E E E (r (pk E E) (re (cf E (sk (sq ?_)))))))))))))))
         refine gen (fun ρ=>ρ 0 = v∧ρ 3 = o1∧ρ 4=.int .i64 aq∧ρ 5=.int .i64 mz∧ρ 6=.int .i64 (j : Int)∧ρ 7=.int .i64 (-1)∧ρ 8=.int .i64 (i : Int)∧True) ⟨y0,y3,y4,y5,y6,y7,y8,trivial⟩ ?_
         rintro ρ ⟨z0, z3, z4, z5, z6, z7, z8, -⟩
         refine rg (r (mv z8) (r (mv z4) (r (bi E E E) (r (mv E) ?_))))
         refine spn 149 E (fun k64 => ?_) (fun k64 => ?_)
         ·refine gy E E E (r (mv z3) (gy E E E (r (mv z8) (gy E E E ?_))))
          obtain ⟨c152_9, ad152_9, k152_9, e152_9, p152_9⟩ := Kd.R.place R7 i (hi')
          refine r (ix (j := i) Try.underlying22 ti2 e152_9 E (hi')) (gy E E E (r (ld Try.underlying2 E E p152_9.cell) (gy E E E (r (bi E E E) (r (pk E E) (r (mv E) ?_))))))
          refine sp 156 E (fun k65 => ?_) (fun k65 => ?_)
          ·refine gy E E E (r (mv z7) (gy E E E (r (bi E E E) (gy E E E (r (mv E) ?_)))))
           refine spf 159 E (show (decide ((-1 : Int) < 0)) = true from (by decide)) ?_
           refine gn E E E (gn E E E (gn E E E (gy E E E (r (pk E E) (r (pk E E) (re (ct E (sq ?_))))))))
           refine gen (fun ρ=>ρ 0 = v∧ρ 3 = o1∧ρ 4=.int .i64 aq∧ρ 5=.int .i64 mz∧ρ 6=.int .i64 (j : Int)∧ρ 7=.int .i64 (-1)∧ρ 8=.int .i64 (i : Int)∧True) ⟨z0,z3,z4,z5,z6,z7,z8,trivial⟩ ?_
           rintro ρ ⟨z0, z3, z4, z5, z6, z7, z8, -⟩
           refine rg (r (sa E) (re (rt ?_)))
           exfalso; omega
          ·refine gn E E E (gn E E E (gn E E E (gu E E E (gu E E E (gu E E E (gn E E E (r (pk E E) (re (cf E (sk (be ?_)))))))))))
           refine gen (fun ρ=>ρ 0 = v∧ρ 3 = o1∧ρ 4=.int .i64 aq∧ρ 5=.int .i64 mz∧ρ 6=.int .i64 (j : Int)∧ρ 7=.int .i64 (-1)∧ρ 8=.int .i64 (i : Int)∧True) ⟨z0,z3,z4,z5,z6,z7,z8,trivial⟩ ?_
           rintro ρ ⟨z0, z3, z4, z5, z6, z7, z8, -⟩
           refine rg (r (mv z8) (r (ad (a := (i : Int)) (b := 1) ((i : Int) + 1) E E (by omega)) (r (sa E) (re ?_))))
           exact ag (i + 1) ⟨z0,z3,z4,z5,z6,z7,E,H4,by omega⟩ (by first | omega | (dsimp only; omega))
         ·refine gn E E E (gn E E E (gn E E E (gn E E E (gn E E E (r (pk E E) (r (mv E) (gn E E E (gn E E E (gn E E E (gu E E E (gu E E E (gu E E E (gn E E E (r (pk E E) (re (cf E (sk (be ?_))))))))))))))))))
          refine gen (fun ρ=>ρ 0 = v∧ρ 3 = o1∧ρ 4=.int .i64 aq∧ρ 5=.int .i64 mz∧ρ 6=.int .i64 (j : Int)∧ρ 7=.int .i64 (-1)∧ρ 8=.int .i64 (i : Int)∧True) ⟨z0,z3,z4,z5,z6,z7,z8,trivial⟩ ?_
          rintro ρ ⟨z0, z3, z4, z5, z6, z7, z8, -⟩
          refine rg (r (mv z8) (r (ad (a := (i : Int)) (b := 1) ((i : Int) + 1) E E (by omega)) (r (sa E) (re ?_))))
          exact ag (i + 1) ⟨z0,z3,z4,z5,z6,z7,E,H4,by omega⟩ (by first | omega | (dsimp only; omega))
       ·refine gn E E E (gn E E E (gn E E E (gn E E E (gn E E E (r (pk E E) (r (mv E) (gn E E E (gn E E E (gn E E E (gn E E E (gn E E E (gn E E E (r (pk E E) (r (mv E) (gn E E E (gn E E E (gn E E E (r (pk E E) (re (cf E (sk (sq ?_))))))))))))))))))))))
        refine gen (fun ρ=>ρ 0 = v∧ρ 3 = o1∧ρ 4=.int .i64 aq∧ρ 5=.int .i64 mz∧ρ 6=.int .i64 (j : Int)∧ρ 7=.int .i64 (-1)∧ρ 8=.int .i64 (i : Int)∧True) ⟨y0,y3,y4,y5,y6,y7,y8,trivial⟩ ?_
        rintro ρ ⟨z0, z3, z4, z5, z6, z7, z8, -⟩
        refine rg (r (mv z8) (r (mv z4) (r (bi E E E) (r (mv E) ?_))))
        refine spn 149 E (fun k66 => ?_) (fun k66 => ?_)
        ·refine gy E E E (r (mv z3) (gy E E E (r (mv z8) (gy E E E ?_))))
         obtain ⟨c152_8, ad152_8, k152_8, e152_8, p152_8⟩ := Kd.R.place R7 i (hi')
         refine r (ix (j := i) Try.underlying22 ti2 e152_8 E (hi')) (gy E E E (r (ld Try.underlying2 E E p152_8.cell) (gy E E E (r (bi E E E) (r (pk E E) (r (mv E) ?_))))))
         refine sp 156 E (fun k67 => ?_) (fun k67 => ?_)
         ·refine gy E E E (r (mv z7) (gy E E E (r (bi E E E) (gy E E E (r (mv E) ?_)))))
          refine spf 159 E (show (decide ((-1 : Int) < 0)) = true from (by decide)) ?_
          refine gn E E E (gn E E E (gn E E E (gy E E E (r (pk E E) (r (pk E E) (re (ct E (sq ?_))))))))
          refine gen (fun ρ=>ρ 0 = v∧ρ 3 = o1∧ρ 4=.int .i64 aq∧ρ 5=.int .i64 mz∧ρ 6=.int .i64 (j : Int)∧ρ 7=.int .i64 (-1)∧ρ 8=.int .i64 (i : Int)∧True) ⟨z0,z3,z4,z5,z6,z7,z8,trivial⟩ ?_
          rintro ρ ⟨z0, z3, z4, z5, z6, z7, z8, -⟩
          refine rg (r (sa E) (re (rt ?_)))
          exfalso; omega
         ·refine gn E E E (gn E E E (gn E E E (gu E E E (gu E E E (gu E E E (gn E E E (r (pk E E) (re (cf E (sk (be ?_)))))))))))
          refine gen (fun ρ=>ρ 0 = v∧ρ 3 = o1∧ρ 4=.int .i64 aq∧ρ 5=.int .i64 mz∧ρ 6=.int .i64 (j : Int)∧ρ 7=.int .i64 (-1)∧ρ 8=.int .i64 (i : Int)∧True) ⟨z0,z3,z4,z5,z6,z7,z8,trivial⟩ ?_
          rintro ρ ⟨z0, z3, z4, z5, z6, z7, z8, -⟩
          refine rg (r (mv z8) (r (ad (a := (i : Int)) (b := 1) ((i : Int) + 1) E E (by omega)) (r (sa E) (re ?_))))
          exact ag (i + 1) ⟨z0,z3,z4,z5,z6,z7,E,H4,by omega⟩ (by first | omega | (dsimp only; omega))
        ·refine gn E E E (gn E E E (gn E E E (gn E E E (gn E E E (r (pk E E) (r (mv E) (gn E E E (gn E E E (gn E E E (gu E E E (gu E E E (gu E E E (gn E E E (r (pk E E) (re (cf E (sk (be ?_))))))))))))))))))
         refine gen (fun ρ=>ρ 0 = v∧ρ 3 = o1∧ρ 4=.int .i64 aq∧ρ 5=.int .i64 mz∧ρ 6=.int .i64 (j : Int)∧ρ 7=.int .i64 (-1)∧ρ 8=.int .i64 (i : Int)∧True) ⟨z0,z3,z4,z5,z6,z7,z8,trivial⟩ ?_
         rintro ρ ⟨z0, z3, z4, z5, z6, z7, z8, -⟩
         refine rg (r (mv z8) (r (ad (a := (i : Int)) (b := 1) ((i : Int) + 1) E E (by omega)) (r (sa E) (re ?_))))
         exact ag (i + 1) ⟨z0,z3,z4,z5,z6,z7,E,H4,by omega⟩ (by first | omega | (dsimp only; omega))
      ·refine ex E (sq (rg (r (mv y0) (cl go55 (DrawFreeLids (hx.t (Hold.ch H4)) lv ok) (ac E an) ?_))))
       rintro rtv wd2 ⟨t, nn, o2, rfl, ht, Hd2⟩
       have H5 : Hold w [] wd2 [rR i64 2 o1 cs, rR kE 70 o2 t] := Hold.news H4 Hd2
       clear H4
       clear Hd2
       refine r (mv E) (r (xt E E) (r (xt E E) (r (sa E) (r (sa E) (re (sq ?_))))))
       refine gen (fun ρ=>ρ 9 = o2∧ρ 10=.int .i64 nn∧True) ⟨E,E,trivial⟩ ?_
       rintro ρ ⟨z9, z10, -⟩
       obtain ⟨_, R10⟩ : ∃ F, Kd.R kE wd2 F o2 t := Hold.row H5 1 rfl
       refine rg (r (mv z9) (r (mv z10) (cl go47 (impl_FreeLids R10 (by omega)) (ac E (ac E an)) ?_)))
       rintro rfl_ wfl ⟨efl, Hfl⟩
       have H6 : Hold w [] wfl [rR i64 2 o1 cs, rR kE 70 o2 t, rR i64 efl rfl_ (flD t nn)] := Hold.news H5 Hfl
       clear H5
       clear Hfl
       refine r (sa E) (re (sq (rg (r (sa E) (re (sq (sq (rg (r (sa E) (re (bl ?_)))))))))))
       refine lp (α := Nat) (fun i ρ w' => ρ 9 = o2∧ρ 10=.int .i64 nn∧ρ 11 = rfl_∧ρ 12=.int .i64 ((freeN t i).length : Int)∧ρ 13=.int .i64 (i : Int)∧Hold w [] w' [rR i64 2 o1 cs,rR kE 70 o2 t,rR i64 efl rfl_ (flD t nn)]∧i ≤ t.length) (fun i => t.length - i) 0 ?_ ?_
       ·exact ⟨z9,z10,E,E,E,H6,by omega⟩
       clear H6
       rintro i ρ w507 ⟨y9, y10, y11, y12, y13, H7, hi2⟩
       obtain ⟨_, R11⟩ : ∃ F, Kd.R kE w507 F o2 t := Hold.row H7 1 rfl
       refine sq (sq (rg (r (mv y13) (r (mv y9) (r (ln Try.underlying57 E (R11)) (r (bi E E E) (re ?_)))))))
       refine cp E (fun hlt2 => ?_) (fun hlt2 => ?_)
       ·have hi3 : i < t.length := by omega
        have hfl := freeN_len t i
        refine sk (sq (bl (sq (rg (r (mv y9) (r (mv y13) ?_))))))
        obtain ⟨c181_12, ad181_12, k181_12, e181_12, p181_12⟩ := Kd.R.place R11 i (hi3)
        have q181_12 := en_at p181_12
        refine r (ix (j := i) Try.underlying57 ti70 e181_12 E (hi3)) (r (fa' Try.underlying70 E ti2 E E) (r (ld Try.underlying2 E E (q181_12 0 _ E)) (r (bi E E E) (re ?_))))
        refine cp E (fun hz => ?_) (fun hz => ?_)
        ·refine gen (fun ρ=>ρ 9 = o2∧ρ 10=.int .i64 nn∧ρ 11 = rfl_∧ρ 12=.int .i64 ((freeN t i).length : Int)∧ρ 13=.int .i64 (i : Int)∧True) ⟨y9,y10,y11,y12,y13,trivial⟩ ?_
         rintro ρ ⟨z9, z10, z11, z12, z13, -⟩
         refine rg (r (mv z12) (r (ad (a := ((freeN t i).length : Int)) (b := 1) (((freeN t (i + 1)).length : Int)) E E (by rw [freeN_yes hi3 hz]; simp; omega)) (r (sa E) (re (be (rg (r (mv z13) (r (ad (a := (i : Int)) (b := 1) ((i : Int) + 1) E E (by omega)) (r (sa E) (re ?_))))))))))
         exact ag (i + 1) ⟨z9,z10,z11,E,E,H7,by omega⟩ (by first | omega | (dsimp only; omega))
        ·refine sk (be ?_)
         refine gen (fun ρ=>ρ 9 = o2∧ρ 10=.int .i64 nn∧ρ 11 = rfl_∧ρ 12=.int .i64 ((freeN t i).length : Int)∧ρ 13=.int .i64 (i : Int)∧True) ⟨y9,y10,y11,y12,y13,trivial⟩ ?_
         rintro ρ ⟨z9, z10, z11, z12, z13, -⟩
         refine rg (r (mv z13) (r (ad (a := (i : Int)) (b := 1) ((i : Int) + 1) E E (by omega)) (r (sa E) (re ?_))))
         rw [← freeN_no hi3 hz] at z12
         exact ag (i + 1) ⟨z9,z10,z11,z12,E,H7,by omega⟩ (by first | omega | (dsimp only; omega))
       ·obtain rfl : i = t.length := by omega
        refine ex E (sq (sq (rg (r (mv y10) (r (bi E E E) (r (mv E) ?_))))))
        refine sp 189 E (fun hn1 => ?_) (fun hn1 => ?_)
        ·refine gn E E E (gn E E E (gn E E E (r (pk E E) (re (ct E (sq ?_))))))
         refine gen (fun ρ=>ρ 9 = o2∧ρ 10=.int .i64 nn∧ρ 11 = rfl_∧True) ⟨y9,y10,y11,trivial⟩ ?_
         rintro ρ ⟨z9, z10, z11, -⟩
         obtain ⟨_, R12⟩ : ∃ F, Kd.R i64 w507 F rfl_ (flD t nn) := Hold.row H7 2 rfl
         refine rg (r (mv z11) (r (ln Try.underlying22 E (R12)) (r (bi E E E) (r (sa E) (re (rt ?_))))))
         exact fin1 (v := .bool (decide (((flD t nn).length : Int) = 0))) Try.results10 E ⟨congrArg Value.bool (by rw [flD_nil (.inl hn1)]; simp),Hold.ch H7⟩
        ·refine gy E E E (r (mv y10) (gy E E E (r (mv y12) (gy E E E (r (bi E E E) (r (pk E E) (re ?_)))))))
         refine cp E (fun hn2 => ?_) (fun hn2 => ?_)
         ·refine sq ?_
          refine gen (fun ρ=>ρ 9 = o2∧ρ 10=.int .i64 nn∧ρ 11 = rfl_∧True) ⟨y9,y10,y11,trivial⟩ ?_
          rintro ρ ⟨z9, z10, z11, -⟩
          obtain ⟨_, R12⟩ : ∃ F, Kd.R i64 w507 F rfl_ (flD t nn) := Hold.row H7 2 rfl
          refine rg (r (mv z11) (r (ln Try.underlying22 E (R12)) (r (bi E E E) (r (sa E) (re (rt ?_))))))
          exact fin1 (v := .bool (decide (((flD t nn).length : Int) = 0))) Try.results10 E ⟨congrArg Value.bool (by rw [flD_nil (.inr (by omega))]; simp),Hold.ch H7⟩
         ·obtain ⟨hF1, hF2⟩ := flD_full (t := t) (n := nn) (by omega) (by omega)
          refine sk (sq (sq ?_))
          refine gen (fun ρ=>ρ 9 = o2∧ρ 10=.int .i64 nn∧ρ 11 = rfl_∧True) ⟨y9,y10,y11,trivial⟩ ?_
          rintro ρ ⟨z9, z10, z11, -⟩
          obtain ⟨_, R12⟩ : ∃ F, Kd.R i64 w507 F rfl_ (flD t nn) := Hold.row H7 2 rfl
          refine rg (r (mv z11) (r (ln Try.underlying22 E (R12)) (r (mv z10) (r (bi E E E) (re ?_)))))
          refine cf ((E : _ = Value.bool (!decide (((flD t nn).length : Int) = nn))).trans (congrArg Value.bool (show (!decide (((flD t nn).length : Int) = nn)) = false from (by rw [decide_eq_true hF1]; rfl)))) ?_
          refine sk (sq (rg (r (sa E) (re (sq (sq (rg (r (sa E) (re (bl ?_))))))))))
          refine lp (α := Nat) (fun i ρ w' => ρ 9 = o2∧ρ 10=.int .i64 nn∧ρ 11 = rfl_∧ρ 14=.int .i64 ((freeN t i).length : Int)∧ρ 15=.int .i64 (i : Int)∧Hold w [] w' [rR i64 2 o1 cs,rR kE 70 o2 t,rR i64 efl rfl_ (flD t nn)]∧i ≤ t.length) (fun i => t.length - i) 0 ?_ ?_
          ·exact ⟨z9,z10,z11,E,E,H7,by omega⟩
          clear H7
          rintro i ρ w508 ⟨y9, y10, y11, y14, y15, H8, hi2⟩
          obtain ⟨_, R13⟩ : ∃ F, Kd.R kE w508 F o2 t := Hold.row H8 1 rfl
          refine sq (sq (rg (r (mv y15) (r (mv y9) (r (ln Try.underlying57 E (R13)) (r (bi E E E) (r (mv E) ?_)))))))
          refine sp 205 E (fun hm1 => ?_) (fun hm1 => ?_)
          ·refine gy E E E (r (mv y14) (gy E E E (r (mv y10) (gy E E E (r (bi E E E) (r (pk E E) (re ?_)))))))
           refine cp E (fun hm2 => ?_) (fun hm2 => ?_)
           ·have hi3 : i < t.length := by omega
            have hfl := freeN_len t i
            refine sk (sq (bl (sq (rg (r (mv y9) (r (mv y15) ?_))))))
            obtain ⟨c214_14, ad214_14, k214_14, e214_14, p214_14⟩ := Kd.R.place R13 i (hi3)
            have q214_14 := en_at p214_14
            refine r (ix (j := i) Try.underlying57 ti70 e214_14 E (hi3)) (r (fa' Try.underlying70 E ti2 E E) (r (ld Try.underlying2 E E (q214_14 0 _ E)) (r (bi E E E) (re ?_))))
            refine cp E (fun hz => ?_) (fun hz => ?_)
            ·have hkl : (freeN t i).length < (flD t nn).length := by omega
             have hAt : (flD t nn)[(freeN t i).length] = (i : Int) + 1 := by
              have h9 := (hF2 _ hm2).trans (freeN_at hi3 hz)
              rw [List.getElem?_eq_getElem hkl] at h9; exact Option.some.inj h9
             obtain ⟨kk, hkk⟩ : ∃ k, k = (freeN t i).length := ⟨_, rfl⟩
             refine sq (sq ?_)
             refine gen (fun ρ=>ρ 9 = o2∧ρ 10=.int .i64 nn∧ρ 11 = rfl_∧ρ 14=.int .i64 ((freeN t i).length : Int)∧ρ 15=.int .i64 (i : Int)∧True) ⟨y9,y10,y11,y14,y15,trivial⟩ ?_
             rintro ρ ⟨z9, z10, z11, z14, z15, -⟩
             obtain ⟨_, R15⟩ : ∃ F, Kd.R i64 w508 F rfl_ (flD t nn) := Hold.row H8 2 rfl
             refine rg (r (mv z11) (r (mv z14) ?_))
             obtain ⟨c220_16, ad220_16, k220_16, e220_16, p220_16⟩ := Kd.R.place R15 ((freeN t i).length) (hkl)
             refine r (ix (j := (freeN t i).length) Try.underlying22 ti2 e220_16 E (hkl)) (r (ld Try.underlying2 E E p220_16.cell) (r (mv z15) (r (ad (a := (i : Int)) (b := 1) ((i : Int) + 1) E E (by omega)) (r (bi E E E) (re ?_)))))
             refine cf ((E : _ = Value.bool (!decide (((flD t nn)[(freeN t i).length]) = ((i : Int) + 1)))).trans (congrArg Value.bool (show (!decide (((flD t nn)[(freeN t i).length]) = ((i : Int) + 1))) = false from (by rw [decide_eq_true hAt]; rfl)))) ?_
             refine sk (rg (r (mv z14) (r (ad (a := ((freeN t i).length : Int)) (b := 1) (((freeN t (i + 1)).length : Int)) E E (by rw [freeN_yes hi3 hz]; simp; omega)) (r (sa E) (re (be ?_))))))
             refine gen (fun ρ=>ρ 9 = o2∧ρ 10=.int .i64 nn∧ρ 11 = rfl_∧ρ 14=.int .i64 ((freeN t (i + 1)).length : Int)∧ρ 15=.int .i64 (i : Int)∧True) ⟨z9,z10,z11,E,z15,trivial⟩ ?_
             rintro ρ ⟨z9, z10, z11, z14, z15, -⟩
             refine rg (r (mv z15) (r (ad (a := (i : Int)) (b := 1) ((i : Int) + 1) E E (by omega)) (r (sa E) (re ?_))))
             exact ag (i + 1) ⟨z9,z10,z11,z14,E,H8,by omega⟩ (by first | omega | (dsimp only; omega))
            ·refine sk (be ?_)
             refine gen (fun ρ=>ρ 9 = o2∧ρ 10=.int .i64 nn∧ρ 11 = rfl_∧ρ 14=.int .i64 ((freeN t i).length : Int)∧ρ 15=.int .i64 (i : Int)∧True) ⟨y9,y10,y11,y14,y15,trivial⟩ ?_
             rintro ρ ⟨z9, z10, z11, z14, z15, -⟩
             refine rg (r (mv z15) (r (ad (a := (i : Int)) (b := 1) ((i : Int) + 1) E E (by omega)) (r (sa E) (re ?_))))
             rw [← freeN_no hi3 hz] at z14
             exact ag (i + 1) ⟨z9,z10,z11,z14,E,H8,by omega⟩ (by first | omega | (dsimp only; omega))
           ·refine ex E (sq (rg (r (sa E) (re (rt ?_)))))
            exact fin1 (v := .bool true) Try.results10 E ⟨E,Hold.ch H8⟩
          ·refine gn E E E (gn E E E (gn E E E (r (pk E E) (re (cf E (ex E (sq (rg (r (sa E) (re (rt ?_)))))))))))
           exact fin1 (v := .bool true) Try.results10 E ⟨E,Hold.ch H8⟩
   ·rw [inside_iff] at hjp
    simp only [decide_eq_true_eq] at hfp
    obtain ⟨_, R3⟩ : ∃ F, Kd.R i64 wd F o1 cs := Hold.row H1 0 rfl
    refine cl go28 (impl_PickVictim R3 (by omega)) (ac E (ac E (ac E an))) ?_
    rintro rp wp ⟨er, cp1⟩
    rw [hV] at er
    subst er
    have H2 : Hold w [] wp [rR i64 2 o1 cs] := Hold.t H1 cp1
    clear H1
    clear cp1
    obtain ⟨_, R5⟩ : ∃ F, Kd.R i64 wp F o1 cs := Hold.row H2 0 rfl
    refine r (sa E) (re (sq (rg (r (mv z3) (r (mv z4) (cl go25 (impl_FreeSegment R5 (by omega)) (ac E (ac E an)) ?_))))))
    rintro rs wsg ⟨er2, cp2⟩
    rw [hW] at er2
    subst er2
    have H3 : Hold w [] wsg [rR i64 2 o1 cs] := Hold.t H2 cp2
    clear H2
    clear cp2
    refine r (sa E) (re (sq (sq (rg (r (mv E) (r (bi E E E) (r (mv E) ?_)))))))
    refine spf 34 E (show (decide ((j : Int) < (-1))) = false from (decide_eq_false (by omega))) ?_
    obtain ⟨_, R6⟩ : ∃ F, Kd.R i64 wsg F o1 cs := Hold.row H3 0 rfl
    refine gy E E E (r (mv E) (gy E E E (r (mv z3) (gy E E E (r (ln Try.underlying22 E (R6)) (gy E E E (r (bi E E E) (r (pk E E) (r (mv E) ?_)))))))))
    refine spf 40 E (show (decide ((cs.length : Int) ≤ (j : Int))) = false from (decide_eq_false (by omega))) ?_
    refine gy E E E (r (mv E) (gy E E E (r (bi E E E) (r (pk E E) (r (mv E) ?_)))))
    refine spf 44 E (show (decide ((f : Int) < (-1))) = false from (decide_eq_false (by omega))) ?_
    refine gy E E E (r (mv E) (gy E E E (r (mv z3) (gy E E E (r (ln Try.underlying22 E (R6)) (gy E E E (r (bi E E E) (r (pk E E) (re ?_)))))))))
    refine cf ((E : _ = Value.bool (decide ((cs.length : Int) ≤ (f : Int)))).trans (congrArg Value.bool (show (decide ((cs.length : Int) ≤ (f : Int))) = false from (decide_eq_false (by omega))))) ?_
    refine sk (sq (sq ?_))
    refine gen (fun ρ=>ρ 0 = v∧ρ 2=.bool false∧ρ 3 = o1∧ρ 4=.int .i64 aq∧ρ 5=.int .i64 mz∧ρ 6=.int .i64 (j : Int)∧ρ 7=.int .i64 (f : Int)∧True) ⟨z0,z2,z3,z4,z5,E,E,trivial⟩ ?_
    rintro ρ ⟨z0, z2, z3, z4, z5, z6, z7, -⟩
    refine rg (r (mv z6) (r (bi E E E) (r (mv E) ?_)))
    refine sp 52 E (fun k68 => ?_) (fun k68 => ?_)
    ·refine gy E E E (r (mv z6) (gy E E E (r (mv z4) (gy E E E (r (bi E E E) (gy E E E (r (mv E) ?_)))))))
     refine spf 56 E (show (decide ((j : Int) = aq)) = false from (decide_eq_false (by omega))) ?_
     refine gy E E E (r (mv z3) (gy E E E (r (mv z6) (gy E E E ?_))))
     obtain ⟨c59_7, ad59_7, k59_7, e59_7, p59_7⟩ := Kd.R.place R6 j (hj)
     refine r (ix (j := j) Try.underlying22 ti2 e59_7 E (hj)) (gy E E E (r (ld Try.underlying2 E E p59_7.cell) (gy E E E (r (bi E E E) (gy E E E (r (pk E E) (gy E E E (r (mv E) ?_))))))))
     refine spf 63 E (show (decide ((cs[j]) < 1)) = false from (decide_eq_false (by omega))) ?_
     refine gy E E E (r (mv z3) (gy E E E (r (mv z6) (gy E E E ?_))))
     obtain ⟨c66_8, ad66_8, k66_8, e66_8, p66_8⟩ := Kd.R.place R6 j (hj)
     refine r (ix (j := j) Try.underlying22 ti2 e66_8 E (hj)) (gy E E E (r (ld Try.underlying2 E E p66_8.cell) (gy E E E (r (mv z5) (gy E E E (r (bi E E E) (gy E E E (r (pk E E) (r (pk E E) (r (mv E) ?_))))))))))
     refine spf 72 E (show (decide (mz ≤ (cs[j]))) = false from (decide_eq_false (by omega))) ?_
     refine gy E E E (r (mv z7) (gy E E E (r (bi E E E) (gy E E E (r (mv E) ?_)))))
     refine sp 75 E (fun k69 => ?_) (fun k69 => ?_)
     ·refine gy E E E (r (mv z7) (gy E E E (r (mv z4) (gy E E E (r (bi E E E) (gy E E E (r (mv E) ?_)))))))
      refine spf 79 E (show (decide ((f : Int) = aq)) = false from (decide_eq_false (by omega))) ?_
      refine gy E E E (r (mv z3) (gy E E E (r (mv z7) (gy E E E ?_))))
      obtain ⟨c82_9, ad82_9, k82_9, e82_9, p82_9⟩ := Kd.R.place R6 f (hf)
      refine r (ix (j := f) Try.underlying22 ti2 e82_9 E (hf)) (gy E E E (r (ld Try.underlying2 E E p82_9.cell) (gy E E E (r (bi E E E) (gy E E E (r (pk E E) (gy E E E (r (pk E E) (r (pk E E) (re ?_))))))))))
      refine cf ((E : _ = Value.bool (!decide ((cs[f]) = 0))).trans (congrArg Value.bool (show (!decide ((cs[f]) = 0)) = false from (by rw [decide_eq_true (by omega)]; rfl)))) ?_
      refine sk (sq (sq ?_))
      refine gen (fun ρ=>ρ 0 = v∧ρ 2=.bool false∧ρ 3 = o1∧ρ 4=.int .i64 aq∧ρ 5=.int .i64 mz∧ρ 6=.int .i64 (j : Int)∧ρ 7=.int .i64 (f : Int)∧True) ⟨z0,z2,z3,z4,z5,z6,z7,trivial⟩ ?_
      rintro ρ ⟨z0, z2, z3, z4, z5, z6, z7, -⟩
      refine rg (r (sa E) (re (bl ?_)))
      refine lp (α := Nat) (fun i ρ w' => ρ 0 = v∧ρ 3 = o1∧ρ 4=.int .i64 aq∧ρ 5=.int .i64 mz∧ρ 6=.int .i64 (j : Int)∧ρ 7=.int .i64 (f : Int)∧ρ 8=.int .i64 (i : Int)∧Hold w [] w' [rR i64 2 o1 cs]∧i ≤ cs.length) (fun i => cs.length - i) 0 ?_ ?_
      ·exact ⟨z0,z3,z4,z5,z6,z7,E,H3,by omega⟩
      clear H3
      rintro i ρ w504 ⟨y0, y3, y4, y5, y6, y7, y8, H4, hi⟩
      obtain ⟨_, R10⟩ : ∃ F, Kd.R i64 w504 F o1 cs := Hold.row H4 0 rfl
      refine sq (sq (rg (r (mv y8) (r (mv y3) (r (ln Try.underlying22 E (R10)) (r (bi E E E) (re ?_)))))))
      refine cp E (fun hlt => ?_) (fun hlt => ?_)
      ·have hi' : i < cs.length := by omega
       have hvi := hjm i hi'
       simp only [inside_iff] at hvi
       have hwi := hfm i hi'
       simp only [decide_eq_true_eq] at hwi
       refine sk (sq (bl (sq (sq (rg (r (mv y8) (r (mv y4) (r (bi E E E) (r (mv E) ?_)))))))))
       refine spn 97 E (fun k70 => ?_) (fun k70 => ?_)
       ·refine gy E E E (r (mv y3) (gy E E E (r (mv y8) (gy E E E ?_))))
        obtain ⟨c100_11, ad100_11, k100_11, e100_11, p100_11⟩ := Kd.R.place R10 i (hi')
        refine r (ix (j := i) Try.underlying22 ti2 e100_11 E (hi')) (gy E E E (r (ld Try.underlying2 E E p100_11.cell) (gy E E E (r (bi E E E) (r (pk E E) (r (mv E) ?_))))))
        refine sp 104 E (fun k71 => ?_) (fun k71 => ?_)
        ·refine gy E E E (r (mv y3) (gy E E E (r (mv y8) (gy E E E ?_))))
         obtain ⟨c107_12, ad107_12, k107_12, e107_12, p107_12⟩ := Kd.R.place R10 i (hi')
         refine r (ix (j := i) Try.underlying22 ti2 e107_12 E (hi')) (gy E E E (r (ld Try.underlying2 E E p107_12.cell) (gy E E E (r (mv y5) (gy E E E (r (bi E E E) (r (pk E E) (r (mv E) ?_))))))))
         refine sp 112 E (fun k72 => ?_) (fun k72 => ?_)
         ·refine gy E E E (r (mv y8) (gy E E E (r (mv y6) (gy E E E (r (bi E E E) (r (pk E E) (re ?_)))))))
          refine cpn E (fun k73 => ?_) (fun k73 => ?_)
          ·refine sq ?_
           refine gen (fun ρ=>ρ 0 = v∧ρ 3 = o1∧ρ 4=.int .i64 aq∧ρ 5=.int .i64 mz∧ρ 6=.int .i64 (j : Int)∧ρ 7=.int .i64 (f : Int)∧ρ 8=.int .i64 (i : Int)∧True) ⟨y0,y3,y4,y5,y6,y7,y8,trivial⟩ ?_
           rintro ρ ⟨z0, z3, z4, z5, z6, z7, z8, -⟩
           refine rd mixed (by kernel_rfl) (q (mv z6) (q (bi E E E) (q (mv E) ?_)))
           refine spfq 119 E (show (decide ((j : Int) < 0)) = false from (decide_eq_false (by omega))) ?_
           refine gyq E E E (q (mv z3) (gyq E E E (q (mv z8) (gyq E E E ?_))))
           obtain ⟨c122_13, ad122_13, k122_13, e122_13, p122_13⟩ := Kd.R.place R10 i (hi')
           refine q (ix (j := i) Try.underlying22 ti2 e122_13 E (hi')) (gyq E E E (q (ld Try.underlying2 E E p122_13.cell) (gyq E E E (q (mv z3) (gyq E E E (q (mv z6) (gyq E E E ?_)))))))
           obtain ⟨c126_14, ad126_14, k126_14, e126_14, p126_14⟩ := Kd.R.place R10 j (hj)
           refine q (ix (j := j) Try.underlying22 ti2 e126_14 E (hj)) (gyq E E E (q (ld Try.underlying2 E E p126_14.cell) (gyq E E E (q (bi E E E) (q (pk E E) (q (mv E) ?_))))))
           refine spfq 130 E (show (decide ((cs[i]) < (cs[j]))) = false from (decide_eq_false (by omega))) ?_
           refine gyq E E E (q (mv z3) (gyq E E E (q (mv z8) (gyq E E E ?_))))
           obtain ⟨c133_15, ad133_15, k133_15, e133_15, p133_15⟩ := Kd.R.place R10 i (hi')
           refine q (ix (j := i) Try.underlying22 ti2 e133_15 E (hi')) (gyq E E E (q (ld Try.underlying2 E E p133_15.cell) (gyq E E E (q (mv z3) (gyq E E E (q (mv z6) (gyq E E E ?_)))))))
           obtain ⟨c137_16, ad137_16, k137_16, e137_16, p137_16⟩ := Kd.R.place R10 j (hj)
           refine q (ix (j := j) Try.underlying22 ti2 e137_16 E (hj)) (gyq E E E (q (ld Try.underlying2 E E p137_16.cell) (gyq E E E (q (bi E E E) (gyq E E E (q (mv E) ?_))))))
           refine spq 140 E (fun k74 => ?_) (fun k74 => ?_)
           ·refine gyq E E E (q (mv z8) (gyq E E E (q (mv z6) (gyq E E E (q (bi E E E) (gyq E E E (q (pk E E) (q (pk E E) (me ?_)))))))))
            intro w1 c1
            have H5 : Hold w [] w1 [rR i64 2 o1 cs] := Hold.t H4 c1
            clear H4
            refine cf ((E : _ = Value.bool (decide ((i : Int) < (j : Int)))).trans (congrArg Value.bool (show (decide ((i : Int) < (j : Int))) = false from (decide_eq_false (by omega))))) ?_
            refine sk (sq ?_)
            refine gen (fun ρ=>ρ 0 = v∧ρ 3 = o1∧ρ 4=.int .i64 aq∧ρ 5=.int .i64 mz∧ρ 6=.int .i64 (j : Int)∧ρ 7=.int .i64 (f : Int)∧ρ 8=.int .i64 (i : Int)∧True) ⟨z0,z3,z4,z5,z6,z7,z8,trivial⟩ ?_
            rintro ρ ⟨z0, z3, z4, z5, z6, z7, z8, -⟩
            refine rg (r (mv z8) (r (mv z4) (r (bi E E E) (r (mv E) ?_))))
            refine spn 149 E (fun k75 => ?_) (fun k75 => ?_)
            ·obtain ⟨_, R17⟩ : ∃ F, Kd.R i64 w1 F o1 cs := Hold.row H5 0 rfl
             refine gy E E E (r (mv z3) (gy E E E (r (mv z8) (gy E E E ?_))))
             obtain ⟨c152_18, ad152_18, k152_18, e152_18, p152_18⟩ := Kd.R.place R17 i (hi')
             refine r (ix (j := i) Try.underlying22 ti2 e152_18 E (hi')) (gy E E E (r (ld Try.underlying2 E E p152_18.cell) (gy E E E (r (bi E E E) (r (pk E E) (r (mv E) ?_))))))
             refine sp 156 E (fun k76 => ?_) (fun k76 => ?_)
             ·refine gy E E E (r (mv z7) (gy E E E (r (bi E E E) (gy E E E (r (mv E) ?_)))))
              refine spf 159 E (show (decide ((f : Int) < 0)) = false from (decide_eq_false (by omega))) ?_
              refine gy E E E (r (mv z8) (gy E E E (r (mv z7) (gy E E E (r (bi E E E) (gy E E E (r (pk E E) (r (pk E E) (re ?_)))))))))
              refine cf ((E : _ = Value.bool (decide ((i : Int) < (f : Int)))).trans (congrArg Value.bool (show (decide ((i : Int) < (f : Int))) = false from (decide_eq_false (by omega))))) ?_
              refine sk (be ?_)
              refine gen (fun ρ=>ρ 0 = v∧ρ 3 = o1∧ρ 4=.int .i64 aq∧ρ 5=.int .i64 mz∧ρ 6=.int .i64 (j : Int)∧ρ 7=.int .i64 (f : Int)∧ρ 8=.int .i64 (i : Int)∧True) ⟨z0,z3,z4,z5,z6,z7,z8,trivial⟩ ?_
              rintro ρ ⟨z0, z3, z4, z5, z6, z7, z8, -⟩
              refine rg (r (mv z8) (r (ad (a := (i : Int)) (b := 1) ((i : Int) + 1) E E (by omega)) (r (sa E) (re ?_))))
              exact ag (i + 1) ⟨z0,z3,z4,z5,z6,z7,E,H5,by omega⟩ (by first | omega | (dsimp only; omega))
             ·refine gn E E E (gn E E E (gn E E E (gu E E E (gu E E E (gu E E E (gn E E E (r (pk E E) (re (cf E (sk (be ?_)))))))))))
              refine gen (fun ρ=>ρ 0 = v∧ρ 3 = o1∧ρ 4=.int .i64 aq∧ρ 5=.int .i64 mz∧ρ 6=.int .i64 (j : Int)∧ρ 7=.int .i64 (f : Int)∧ρ 8=.int .i64 (i : Int)∧True) ⟨z0,z3,z4,z5,z6,z7,z8,trivial⟩ ?_
              rintro ρ ⟨z0, z3, z4, z5, z6, z7, z8, -⟩
              refine rg (r (mv z8) (r (ad (a := (i : Int)) (b := 1) ((i : Int) + 1) E E (by omega)) (r (sa E) (re ?_))))
              exact ag (i + 1) ⟨z0,z3,z4,z5,z6,z7,E,H5,by omega⟩ (by first | omega | (dsimp only; omega))
            ·refine gn E E E (gn E E E (gn E E E (gn E E E (gn E E E (r (pk E E) (r (mv E) (gn E E E (gn E E E (gn E E E (gu E E E (gu E E E (gu E E E (gn E E E (r (pk E E) (re (cf E (sk (be ?_))))))))))))))))))
             refine gen (fun ρ=>ρ 0 = v∧ρ 3 = o1∧ρ 4=.int .i64 aq∧ρ 5=.int .i64 mz∧ρ 6=.int .i64 (j : Int)∧ρ 7=.int .i64 (f : Int)∧ρ 8=.int .i64 (i : Int)∧True) ⟨z0,z3,z4,z5,z6,z7,z8,trivial⟩ ?_
             rintro ρ ⟨z0, z3, z4, z5, z6, z7, z8, -⟩
             refine rg (r (mv z8) (r (ad (a := (i : Int)) (b := 1) ((i : Int) + 1) E E (by omega)) (r (sa E) (re ?_))))
             exact ag (i + 1) ⟨z0,z3,z4,z5,z6,z7,E,H5,by omega⟩ (by first | omega | (dsimp only; omega))
           ·refine gnq E E E (gnq E E E (gnq E E E (gyq E E E (q (pk E E) (q (pk E E) (me ?_))))))
            intro w1 c1
            have H5 : Hold w [] w1 [rR i64 2 o1 cs] := Hold.t H4 c1
            clear H4
            refine cf E (sk (sq ?_))
            refine gen (fun ρ=>ρ 0 = v∧ρ 3 = o1∧ρ 4=.int .i64 aq∧ρ 5=.int .i64 mz∧ρ 6=.int .i64 (j : Int)∧ρ 7=.int .i64 (f : Int)∧ρ 8=.int .i64 (i : Int)∧True) ⟨z0,z3,z4,z5,z6,z7,z8,trivial⟩ ?_
            rintro ρ ⟨z0, z3, z4, z5, z6, z7, z8, -⟩
            refine rg (r (mv z8) (r (mv z4) (r (bi E E E) (r (mv E) ?_))))
            refine spn 149 E (fun k77 => ?_) (fun k77 => ?_)
            ·obtain ⟨_, R17⟩ : ∃ F, Kd.R i64 w1 F o1 cs := Hold.row H5 0 rfl
             refine gy E E E (r (mv z3) (gy E E E (r (mv z8) (gy E E E ?_))))
             obtain ⟨c152_18, ad152_18, k152_18, e152_18, p152_18⟩ := Kd.R.place R17 i (hi')
             refine r (ix (j := i) Try.underlying22 ti2 e152_18 E (hi')) (gy E E E (r (ld Try.underlying2 E E p152_18.cell) (gy E E E (r (bi E E E) (r (pk E E) (r (mv E) ?_))))))
             refine sp 156 E (fun k78 => ?_) (fun k78 => ?_)
             ·refine gy E E E (r (mv z7) (gy E E E (r (bi E E E) (gy E E E (r (mv E) ?_)))))
              refine spf 159 E (show (decide ((f : Int) < 0)) = false from (decide_eq_false (by omega))) ?_
              refine gy E E E (r (mv z8) (gy E E E (r (mv z7) (gy E E E (r (bi E E E) (gy E E E (r (pk E E) (r (pk E E) (re ?_)))))))))
              refine cf ((E : _ = Value.bool (decide ((i : Int) < (f : Int)))).trans (congrArg Value.bool (show (decide ((i : Int) < (f : Int))) = false from (decide_eq_false (by omega))))) ?_
              refine sk (be ?_)
              refine gen (fun ρ=>ρ 0 = v∧ρ 3 = o1∧ρ 4=.int .i64 aq∧ρ 5=.int .i64 mz∧ρ 6=.int .i64 (j : Int)∧ρ 7=.int .i64 (f : Int)∧ρ 8=.int .i64 (i : Int)∧True) ⟨z0,z3,z4,z5,z6,z7,z8,trivial⟩ ?_
              rintro ρ ⟨z0, z3, z4, z5, z6, z7, z8, -⟩
              refine rg (r (mv z8) (r (ad (a := (i : Int)) (b := 1) ((i : Int) + 1) E E (by omega)) (r (sa E) (re ?_))))
              exact ag (i + 1) ⟨z0,z3,z4,z5,z6,z7,E,H5,by omega⟩ (by first | omega | (dsimp only; omega))
             ·refine gn E E E (gn E E E (gn E E E (gu E E E (gu E E E (gu E E E (gn E E E (r (pk E E) (re (cf E (sk (be ?_)))))))))))
              refine gen (fun ρ=>ρ 0 = v∧ρ 3 = o1∧ρ 4=.int .i64 aq∧ρ 5=.int .i64 mz∧ρ 6=.int .i64 (j : Int)∧ρ 7=.int .i64 (f : Int)∧ρ 8=.int .i64 (i : Int)∧True) ⟨z0,z3,z4,z5,z6,z7,z8,trivial⟩ ?_
              rintro ρ ⟨z0, z3, z4, z5, z6, z7, z8, -⟩
              refine rg (r (mv z8) (r (ad (a := (i : Int)) (b := 1) ((i : Int) + 1) E E (by omega)) (r (sa E) (re ?_))))
              exact ag (i + 1) ⟨z0,z3,z4,z5,z6,z7,E,H5,by omega⟩ (by first | omega | (dsimp only; omega))
            ·refine gn E E E (gn E E E (gn E E E (gn E E E (gn E E E (r (pk E E) (r (mv E) (gn E E E (gn E E E (gn E E E (gu E E E (gu E E E (gu E E E (gn E E E (r (pk E E) (re (cf E (sk (be ?_))))))))))))))))))
             refine gen (fun ρ=>ρ 0 = v∧ρ 3 = o1∧ρ 4=.int .i64 aq∧ρ 5=.int .i64 mz∧ρ 6=.int .i64 (j : Int)∧ρ 7=.int .i64 (f : Int)∧ρ 8=.int .i64 (i : Int)∧True) ⟨z0,z3,z4,z5,z6,z7,z8,trivial⟩ ?_
             rintro ρ ⟨z0, z3, z4, z5, z6, z7, z8, -⟩
             refine rg (r (mv z8) (r (ad (a := (i : Int)) (b := 1) ((i : Int) + 1) E E (by omega)) (r (sa E) (re ?_))))
             exact ag (i + 1) ⟨z0,z3,z4,z5,z6,z7,E,H5,by omega⟩ (by first | omega | (dsimp only; omega))
          ·refine sk (sq ?_)
           refine gen (fun ρ=>ρ 0 = v∧ρ 3 = o1∧ρ 4=.int .i64 aq∧ρ 5=.int .i64 mz∧ρ 6=.int .i64 (j : Int)∧ρ 7=.int .i64 (f : Int)∧ρ 8=.int .i64 (i : Int)∧True) ⟨y0,y3,y4,y5,y6,y7,y8,trivial⟩ ?_
           rintro ρ ⟨z0, z3, z4, z5, z6, z7, z8, -⟩
           refine rg (r (mv z8) (r (mv z4) (r (bi E E E) (r (mv E) ?_))))
           refine spn 149 E (fun k79 => ?_) (fun k79 => ?_)
           ·refine gy E E E (r (mv z3) (gy E E E (r (mv z8) (gy E E E ?_))))
            obtain ⟨c152_13, ad152_13, k152_13, e152_13, p152_13⟩ := Kd.R.place R10 i (hi')
            refine r (ix (j := i) Try.underlying22 ti2 e152_13 E (hi')) (gy E E E (r (ld Try.underlying2 E E p152_13.cell) (gy E E E (r (bi E E E) (r (pk E E) (r (mv E) ?_))))))
            refine sp 156 E (fun k80 => ?_) (fun k80 => ?_)
            ·refine gy E E E (r (mv z7) (gy E E E (r (bi E E E) (gy E E E (r (mv E) ?_)))))
             refine spf 159 E (show (decide ((f : Int) < 0)) = false from (decide_eq_false (by omega))) ?_
             refine gy E E E (r (mv z8) (gy E E E (r (mv z7) (gy E E E (r (bi E E E) (gy E E E (r (pk E E) (r (pk E E) (re ?_)))))))))
             refine cf ((E : _ = Value.bool (decide ((i : Int) < (f : Int)))).trans (congrArg Value.bool (show (decide ((i : Int) < (f : Int))) = false from (decide_eq_false (by omega))))) ?_
             refine sk (be ?_)
             refine gen (fun ρ=>ρ 0 = v∧ρ 3 = o1∧ρ 4=.int .i64 aq∧ρ 5=.int .i64 mz∧ρ 6=.int .i64 (j : Int)∧ρ 7=.int .i64 (f : Int)∧ρ 8=.int .i64 (i : Int)∧True) ⟨z0,z3,z4,z5,z6,z7,z8,trivial⟩ ?_
             rintro ρ ⟨z0, z3, z4, z5, z6, z7, z8, -⟩
             refine rg (r (mv z8) (r (ad (a := (i : Int)) (b := 1) ((i : Int) + 1) E E (by omega)) (r (sa E) (re ?_))))
             exact ag (i + 1) ⟨z0,z3,z4,z5,z6,z7,E,H4,by omega⟩ (by first | omega | (dsimp only; omega))
            ·refine gn E E E (gn E E E (gn E E E (gu E E E (gu E E E (gu E E E (gn E E E (r (pk E E) (re (cf E (sk (be ?_)))))))))))
             refine gen (fun ρ=>ρ 0 = v∧ρ 3 = o1∧ρ 4=.int .i64 aq∧ρ 5=.int .i64 mz∧ρ 6=.int .i64 (j : Int)∧ρ 7=.int .i64 (f : Int)∧ρ 8=.int .i64 (i : Int)∧True) ⟨z0,z3,z4,z5,z6,z7,z8,trivial⟩ ?_
             rintro ρ ⟨z0, z3, z4, z5, z6, z7, z8, -⟩
             refine rg (r (mv z8) (r (ad (a := (i : Int)) (b := 1) ((i : Int) + 1) E E (by omega)) (r (sa E) (re ?_))))
             exact ag (i + 1) ⟨z0,z3,z4,z5,z6,z7,E,H4,by omega⟩ (by first | omega | (dsimp only; omega))
           ·refine gn E E E (gn E E E (gn E E E (gn E E E (gn E E E (r (pk E E) (r (mv E) (gn E E E (gn E E E (gn E E E (gu E E E (gu E E E (gu E E E (gn E E E (r (pk E E) (re (cf E (sk (be ?_))))))))))))))))))
            refine gen (fun ρ=>ρ 0 = v∧ρ 3 = o1∧ρ 4=.int .i64 aq∧ρ 5=.int .i64 mz∧ρ 6=.int .i64 (j : Int)∧ρ 7=.int .i64 (f : Int)∧ρ 8=.int .i64 (i : Int)∧True) ⟨z0,z3,z4,z5,z6,z7,z8,trivial⟩ ?_
            rintro ρ ⟨z0, z3, z4, z5, z6, z7, z8, -⟩
            refine rg (r (mv z8) (r (ad (a := (i : Int)) (b := 1) ((i : Int) + 1) E E (by omega)) (r (sa E) (re ?_))))
            exact ag (i + 1) ⟨z0,z3,z4,z5,z6,z7,E,H4,by omega⟩ (by first | omega | (dsimp only; omega))
         ·refine gn E E E (gn E E E (gn E E E (r (pk E E) (re (cf E (sk (sq ?_)))))))
          refine gen (fun ρ=>ρ 0 = v∧ρ 3 = o1∧ρ 4=.int .i64 aq∧ρ 5=.int .i64 mz∧ρ 6=.int .i64 (j : Int)∧ρ 7=.int .i64 (f : Int)∧ρ 8=.int .i64 (i : Int)∧True) ⟨y0,y3,y4,y5,y6,y7,y8,trivial⟩ ?_
          rintro ρ ⟨z0, z3, z4, z5, z6, z7, z8, -⟩
          refine rg (r (mv z8) (r (mv z4) (r (bi E E E) (r (mv E) ?_))))
          refine spn 149 E (fun k81 => ?_) (fun k81 => ?_)
          ·refine gy E E E (r (mv z3) (gy E E E (r (mv z8) (gy E E E ?_))))
           obtain ⟨c152_13, ad152_13, k152_13, e152_13, p152_13⟩ := Kd.R.place R10 i (hi')
           refine r (ix (j := i) Try.underlying22 ti2 e152_13 E (hi')) (gy E E E (r (ld Try.underlying2 E E p152_13.cell) (gy E E E (r (bi E E E) (r (pk E E) (r (mv E) ?_))))))
           refine sp 156 E (fun k82 => ?_) (fun k82 => ?_)
           ·refine gy E E E (r (mv z7) (gy E E E (r (bi E E E) (gy E E E (r (mv E) ?_)))))
            refine spf 159 E (show (decide ((f : Int) < 0)) = false from (decide_eq_false (by omega))) ?_
            refine gy E E E (r (mv z8) (gy E E E (r (mv z7) (gy E E E (r (bi E E E) (gy E E E (r (pk E E) (r (pk E E) (re ?_)))))))))
            refine cf ((E : _ = Value.bool (decide ((i : Int) < (f : Int)))).trans (congrArg Value.bool (show (decide ((i : Int) < (f : Int))) = false from (decide_eq_false (by omega))))) ?_
            refine sk (be ?_)
            refine gen (fun ρ=>ρ 0 = v∧ρ 3 = o1∧ρ 4=.int .i64 aq∧ρ 5=.int .i64 mz∧ρ 6=.int .i64 (j : Int)∧ρ 7=.int .i64 (f : Int)∧ρ 8=.int .i64 (i : Int)∧True) ⟨z0,z3,z4,z5,z6,z7,z8,trivial⟩ ?_
            rintro ρ ⟨z0, z3, z4, z5, z6, z7, z8, -⟩
            refine rg (r (mv z8) (r (ad (a := (i : Int)) (b := 1) ((i : Int) + 1) E E (by omega)) (r (sa E) (re ?_))))
            exact ag (i + 1) ⟨z0,z3,z4,z5,z6,z7,E,H4,by omega⟩ (by first | omega | (dsimp only; omega))
           ·refine gn E E E (gn E E E (gn E E E (gu E E E (gu E E E (gu E E E (gn E E E (r (pk E E) (re (cf E (sk (be ?_)))))))))))
            refine gen (fun ρ=>ρ 0 = v∧ρ 3 = o1∧ρ 4=.int .i64 aq∧ρ 5=.int .i64 mz∧ρ 6=.int .i64 (j : Int)∧ρ 7=.int .i64 (f : Int)∧ρ 8=.int .i64 (i : Int)∧True) ⟨z0,z3,z4,z5,z6,z7,z8,trivial⟩ ?_
            rintro ρ ⟨z0, z3, z4, z5, z6, z7, z8, -⟩
            refine rg (r (mv z8) (r (ad (a := (i : Int)) (b := 1) ((i : Int) + 1) E E (by omega)) (r (sa E) (re ?_))))
            exact ag (i + 1) ⟨z0,z3,z4,z5,z6,z7,E,H4,by omega⟩ (by first | omega | (dsimp only; omega))
          ·refine gn E E E (gn E E E (gn E E E (gn E E E (gn E E E (r (pk E E) (r (mv E) (gn E E E (gn E E E (gn E E E (gu E E E (gu E E E (gu E E E (gn E E E (r (pk E E) (re (cf E (sk (be ?_))))))))))))))))))
           refine gen (fun ρ=>ρ 0 = v∧ρ 3 = o1∧ρ 4=.int .i64 aq∧ρ 5=.int .i64 mz∧ρ 6=.int .i64 (j : Int)∧ρ 7=.int .i64 (f : Int)∧ρ 8=.int .i64 (i : Int)∧True) ⟨z0,z3,z4,z5,z6,z7,z8,trivial⟩ ?_
           rintro ρ ⟨z0, z3, z4, z5, z6, z7, z8, -⟩
           refine rg (r (mv z8) (r (ad (a := (i : Int)) (b := 1) ((i : Int) + 1) E E (by omega)) (r (sa E) (re ?_))))
           exact ag (i + 1) ⟨z0,z3,z4,z5,z6,z7,E,H4,by omega⟩ (by first | omega | (dsimp only; omega))
        ·refine gn E E E (gn E E E (gn E E E (gn E E E (gn E E E (gn E E E (r (pk E E) (r (mv E) (gn E E E (gn E E E (gn E E E (r (pk E E) (re (cf E (sk (sq ?_)))))))))))))))
         refine gen (fun ρ=>ρ 0 = v∧ρ 3 = o1∧ρ 4=.int .i64 aq∧ρ 5=.int .i64 mz∧ρ 6=.int .i64 (j : Int)∧ρ 7=.int .i64 (f : Int)∧ρ 8=.int .i64 (i : Int)∧True) ⟨y0,y3,y4,y5,y6,y7,y8,trivial⟩ ?_
         rintro ρ ⟨z0, z3, z4, z5, z6, z7, z8, -⟩
         refine rg (r (mv z8) (r (mv z4) (r (bi E E E) (r (mv E) ?_))))
         refine spn 149 E (fun k83 => ?_) (fun k83 => ?_)
         ·refine gy E E E (r (mv z3) (gy E E E (r (mv z8) (gy E E E ?_))))
          obtain ⟨c152_12, ad152_12, k152_12, e152_12, p152_12⟩ := Kd.R.place R10 i (hi')
          refine r (ix (j := i) Try.underlying22 ti2 e152_12 E (hi')) (gy E E E (r (ld Try.underlying2 E E p152_12.cell) (gy E E E (r (bi E E E) (r (pk E E) (r (mv E) ?_))))))
          refine sp 156 E (fun k84 => ?_) (fun k84 => ?_)
          ·refine gy E E E (r (mv z7) (gy E E E (r (bi E E E) (gy E E E (r (mv E) ?_)))))
           refine spf 159 E (show (decide ((f : Int) < 0)) = false from (decide_eq_false (by omega))) ?_
           refine gy E E E (r (mv z8) (gy E E E (r (mv z7) (gy E E E (r (bi E E E) (gy E E E (r (pk E E) (r (pk E E) (re ?_)))))))))
           refine cf ((E : _ = Value.bool (decide ((i : Int) < (f : Int)))).trans (congrArg Value.bool (show (decide ((i : Int) < (f : Int))) = false from (decide_eq_false (by omega))))) ?_
           refine sk (be ?_)
           refine gen (fun ρ=>ρ 0 = v∧ρ 3 = o1∧ρ 4=.int .i64 aq∧ρ 5=.int .i64 mz∧ρ 6=.int .i64 (j : Int)∧ρ 7=.int .i64 (f : Int)∧ρ 8=.int .i64 (i : Int)∧True) ⟨z0,z3,z4,z5,z6,z7,z8,trivial⟩ ?_
           rintro ρ ⟨z0, z3, z4, z5, z6, z7, z8, -⟩
           refine rg (r (mv z8) (r (ad (a := (i : Int)) (b := 1) ((i : Int) + 1) E E (by omega)) (r (sa E) (re ?_))))
           exact ag (i + 1) ⟨z0,z3,z4,z5,z6,z7,E,H4,by omega⟩ (by first | omega | (dsimp only; omega))
          ·refine gn E E E (gn E E E (gn E E E (gu E E E (gu E E E (gu E E E (gn E E E (r (pk E E) (re (cf E (sk (be ?_)))))))))))
           refine gen (fun ρ=>ρ 0 = v∧ρ 3 = o1∧ρ 4=.int .i64 aq∧ρ 5=.int .i64 mz∧ρ 6=.int .i64 (j : Int)∧ρ 7=.int .i64 (f : Int)∧ρ 8=.int .i64 (i : Int)∧True) ⟨z0,z3,z4,z5,z6,z7,z8,trivial⟩ ?_
           rintro ρ ⟨z0, z3, z4, z5, z6, z7, z8, -⟩
           refine rg (r (mv z8) (r (ad (a := (i : Int)) (b := 1) ((i : Int) + 1) E E (by omega)) (r (sa E) (re ?_))))
           exact ag (i + 1) ⟨z0,z3,z4,z5,z6,z7,E,H4,by omega⟩ (by first | omega | (dsimp only; omega))
         ·refine gn E E E (gn E E E (gn E E E (gn E E E (gn E E E (r (pk E E) (r (mv E) (gn E E E (gn E E E (gn E E E (gu E E E (gu E E E (gu E E E (gn E E E (r (pk E E) (re (cf E (sk (be ?_))))))))))))))))))
          refine gen (fun ρ=>ρ 0 = v∧ρ 3 = o1∧ρ 4=.int .i64 aq∧ρ 5=.int .i64 mz∧ρ 6=.int .i64 (j : Int)∧ρ 7=.int .i64 (f : Int)∧ρ 8=.int .i64 (i : Int)∧True) ⟨z0,z3,z4,z5,z6,z7,z8,trivial⟩ ?_
          rintro ρ ⟨z0, z3, z4, z5, z6, z7, z8, -⟩
          refine rg (r (mv z8) (r (ad (a := (i : Int)) (b := 1) ((i : Int) + 1) E E (by omega)) (r (sa E) (re ?_))))
          exact ag (i + 1) ⟨z0,z3,z4,z5,z6,z7,E,H4,by omega⟩ (by first | omega | (dsimp only; omega))
       ·refine gn E E E (gn E E E (gn E E E (gn E E E (gn E E E (r (pk E E) (r (mv E) (gn E E E (gn E E E (gn E E E (gn E E E (gn E E E (gn E E E (r (pk E E) (r (mv E) (gn E E E (gn E E E (gn E E E (r (pk E E) (re (cf E (sk (sq ?_))))))))))))))))))))))
        refine gen (fun ρ=>ρ 0 = v∧ρ 3 = o1∧ρ 4=.int .i64 aq∧ρ 5=.int .i64 mz∧ρ 6=.int .i64 (j : Int)∧ρ 7=.int .i64 (f : Int)∧ρ 8=.int .i64 (i : Int)∧True) ⟨y0,y3,y4,y5,y6,y7,y8,trivial⟩ ?_
        rintro ρ ⟨z0, z3, z4, z5, z6, z7, z8, -⟩
        refine rg (r (mv z8) (r (mv z4) (r (bi E E E) (r (mv E) ?_))))
        refine spn 149 E (fun k85 => ?_) (fun k85 => ?_)
        ·refine gy E E E (r (mv z3) (gy E E E (r (mv z8) (gy E E E ?_))))
         obtain ⟨c152_11, ad152_11, k152_11, e152_11, p152_11⟩ := Kd.R.place R10 i (hi')
         refine r (ix (j := i) Try.underlying22 ti2 e152_11 E (hi')) (gy E E E (r (ld Try.underlying2 E E p152_11.cell) (gy E E E (r (bi E E E) (r (pk E E) (r (mv E) ?_))))))
         refine sp 156 E (fun k86 => ?_) (fun k86 => ?_)
         ·refine gy E E E (r (mv z7) (gy E E E (r (bi E E E) (gy E E E (r (mv E) ?_)))))
          refine spf 159 E (show (decide ((f : Int) < 0)) = false from (decide_eq_false (by omega))) ?_
          refine gy E E E (r (mv z8) (gy E E E (r (mv z7) (gy E E E (r (bi E E E) (gy E E E (r (pk E E) (r (pk E E) (re ?_)))))))))
          refine cf ((E : _ = Value.bool (decide ((i : Int) < (f : Int)))).trans (congrArg Value.bool (show (decide ((i : Int) < (f : Int))) = false from (decide_eq_false (by omega))))) ?_
          refine sk (be ?_)
          refine gen (fun ρ=>ρ 0 = v∧ρ 3 = o1∧ρ 4=.int .i64 aq∧ρ 5=.int .i64 mz∧ρ 6=.int .i64 (j : Int)∧ρ 7=.int .i64 (f : Int)∧ρ 8=.int .i64 (i : Int)∧True) ⟨z0,z3,z4,z5,z6,z7,z8,trivial⟩ ?_
          rintro ρ ⟨z0, z3, z4, z5, z6, z7, z8, -⟩
          refine rg (r (mv z8) (r (ad (a := (i : Int)) (b := 1) ((i : Int) + 1) E E (by omega)) (r (sa E) (re ?_))))
          exact ag (i + 1) ⟨z0,z3,z4,z5,z6,z7,E,H4,by omega⟩ (by first | omega | (dsimp only; omega))
         ·refine gn E E E (gn E E E (gn E E E (gu E E E (gu E E E (gu E E E (gn E E E (r (pk E E) (re (cf E (sk (be ?_)))))))))))
          refine gen (fun ρ=>ρ 0 = v∧ρ 3 = o1∧ρ 4=.int .i64 aq∧ρ 5=.int .i64 mz∧ρ 6=.int .i64 (j : Int)∧ρ 7=.int .i64 (f : Int)∧ρ 8=.int .i64 (i : Int)∧True) ⟨z0,z3,z4,z5,z6,z7,z8,trivial⟩ ?_
          rintro ρ ⟨z0, z3, z4, z5, z6, z7, z8, -⟩
          refine rg (r (mv z8) (r (ad (a := (i : Int)) (b := 1) ((i : Int) + 1) E E (by omega)) (r (sa E) (re ?_))))
          exact ag (i + 1) ⟨z0,z3,z4,z5,z6,z7,E,H4,by omega⟩ (by first | omega | (dsimp only; omega))
        ·refine gn E E E (gn E E E (gn E E E (gn E E E (gn E E E (r (pk E E) (r (mv E) (gn E E E (gn E E E (gn E E E (gu E E E (gu E E E (gu E E E (gn E E E (r (pk E E) (re (cf E (sk (be ?_))))))))))))))))))
         refine gen (fun ρ=>ρ 0 = v∧ρ 3 = o1∧ρ 4=.int .i64 aq∧ρ 5=.int .i64 mz∧ρ 6=.int .i64 (j : Int)∧ρ 7=.int .i64 (f : Int)∧ρ 8=.int .i64 (i : Int)∧True) ⟨z0,z3,z4,z5,z6,z7,z8,trivial⟩ ?_
         rintro ρ ⟨z0, z3, z4, z5, z6, z7, z8, -⟩
         refine rg (r (mv z8) (r (ad (a := (i : Int)) (b := 1) ((i : Int) + 1) E E (by omega)) (r (sa E) (re ?_))))
         exact ag (i + 1) ⟨z0,z3,z4,z5,z6,z7,E,H4,by omega⟩ (by first | omega | (dsimp only; omega))
      ·refine ex E (sq (rg (r (mv y0) (cl go55 (DrawFreeLids (hx.t (Hold.ch H4)) lv ok) (ac E an) ?_))))
       rintro rtv wd2 ⟨t, nn, o2, rfl, ht, Hd2⟩
       have H5 : Hold w [] wd2 [rR i64 2 o1 cs, rR kE 70 o2 t] := Hold.news H4 Hd2
       clear H4
       clear Hd2
       refine r (mv E) (r (xt E E) (r (xt E E) (r (sa E) (r (sa E) (re (sq ?_))))))
       refine gen (fun ρ=>ρ 9 = o2∧ρ 10=.int .i64 nn∧True) ⟨E,E,trivial⟩ ?_
       rintro ρ ⟨z9, z10, -⟩
       obtain ⟨_, R13⟩ : ∃ F, Kd.R kE wd2 F o2 t := Hold.row H5 1 rfl
       refine rg (r (mv z9) (r (mv z10) (cl go47 (impl_FreeLids R13 (by omega)) (ac E (ac E an)) ?_)))
       rintro rfl_ wfl ⟨efl, Hfl⟩
       have H6 : Hold w [] wfl [rR i64 2 o1 cs, rR kE 70 o2 t, rR i64 efl rfl_ (flD t nn)] := Hold.news H5 Hfl
       clear H5
       clear Hfl
       refine r (sa E) (re (sq (rg (r (sa E) (re (sq (sq (rg (r (sa E) (re (bl ?_)))))))))))
       refine lp (α := Nat) (fun i ρ w' => ρ 9 = o2∧ρ 10=.int .i64 nn∧ρ 11 = rfl_∧ρ 12=.int .i64 ((freeN t i).length : Int)∧ρ 13=.int .i64 (i : Int)∧Hold w [] w' [rR i64 2 o1 cs,rR kE 70 o2 t,rR i64 efl rfl_ (flD t nn)]∧i ≤ t.length) (fun i => t.length - i) 0 ?_ ?_
       ·exact ⟨z9,z10,E,E,E,H6,by omega⟩
       clear H6
       rintro i ρ w507 ⟨y9, y10, y11, y12, y13, H7, hi2⟩
       obtain ⟨_, R14⟩ : ∃ F, Kd.R kE w507 F o2 t := Hold.row H7 1 rfl
       refine sq (sq (rg (r (mv y13) (r (mv y9) (r (ln Try.underlying57 E (R14)) (r (bi E E E) (re ?_)))))))
       refine cp E (fun hlt2 => ?_) (fun hlt2 => ?_)
       ·have hi3 : i < t.length := by omega
        have hfl := freeN_len t i
        refine sk (sq (bl (sq (rg (r (mv y9) (r (mv y13) ?_))))))
        obtain ⟨c181_15, ad181_15, k181_15, e181_15, p181_15⟩ := Kd.R.place R14 i (hi3)
        have q181_15 := en_at p181_15
        refine r (ix (j := i) Try.underlying57 ti70 e181_15 E (hi3)) (r (fa' Try.underlying70 E ti2 E E) (r (ld Try.underlying2 E E (q181_15 0 _ E)) (r (bi E E E) (re ?_))))
        refine cp E (fun hz => ?_) (fun hz => ?_)
        ·refine gen (fun ρ=>ρ 9 = o2∧ρ 10=.int .i64 nn∧ρ 11 = rfl_∧ρ 12=.int .i64 ((freeN t i).length : Int)∧ρ 13=.int .i64 (i : Int)∧True) ⟨y9,y10,y11,y12,y13,trivial⟩ ?_
         rintro ρ ⟨z9, z10, z11, z12, z13, -⟩
         refine rg (r (mv z12) (r (ad (a := ((freeN t i).length : Int)) (b := 1) (((freeN t (i + 1)).length : Int)) E E (by rw [freeN_yes hi3 hz]; simp; omega)) (r (sa E) (re (be (rg (r (mv z13) (r (ad (a := (i : Int)) (b := 1) ((i : Int) + 1) E E (by omega)) (r (sa E) (re ?_))))))))))
         exact ag (i + 1) ⟨z9,z10,z11,E,E,H7,by omega⟩ (by first | omega | (dsimp only; omega))
        ·refine sk (be ?_)
         refine gen (fun ρ=>ρ 9 = o2∧ρ 10=.int .i64 nn∧ρ 11 = rfl_∧ρ 12=.int .i64 ((freeN t i).length : Int)∧ρ 13=.int .i64 (i : Int)∧True) ⟨y9,y10,y11,y12,y13,trivial⟩ ?_
         rintro ρ ⟨z9, z10, z11, z12, z13, -⟩
         refine rg (r (mv z13) (r (ad (a := (i : Int)) (b := 1) ((i : Int) + 1) E E (by omega)) (r (sa E) (re ?_))))
         rw [← freeN_no hi3 hz] at z12
         exact ag (i + 1) ⟨z9,z10,z11,z12,E,H7,by omega⟩ (by first | omega | (dsimp only; omega))
       ·obtain rfl : i = t.length := by omega
        refine ex E (sq (sq (rg (r (mv y10) (r (bi E E E) (r (mv E) ?_))))))
        refine sp 189 E (fun hn1 => ?_) (fun hn1 => ?_)
        ·refine gn E E E (gn E E E (gn E E E (r (pk E E) (re (ct E (sq ?_))))))
         refine gen (fun ρ=>ρ 9 = o2∧ρ 10=.int .i64 nn∧ρ 11 = rfl_∧True) ⟨y9,y10,y11,trivial⟩ ?_
         rintro ρ ⟨z9, z10, z11, -⟩
         obtain ⟨_, R15⟩ : ∃ F, Kd.R i64 w507 F rfl_ (flD t nn) := Hold.row H7 2 rfl
         refine rg (r (mv z11) (r (ln Try.underlying22 E (R15)) (r (bi E E E) (r (sa E) (re (rt ?_))))))
         exact fin1 (v := .bool (decide (((flD t nn).length : Int) = 0))) Try.results10 E ⟨congrArg Value.bool (by rw [flD_nil (.inl hn1)]; simp),Hold.ch H7⟩
        ·refine gy E E E (r (mv y10) (gy E E E (r (mv y12) (gy E E E (r (bi E E E) (r (pk E E) (re ?_)))))))
         refine cp E (fun hn2 => ?_) (fun hn2 => ?_)
         ·refine sq ?_
          refine gen (fun ρ=>ρ 9 = o2∧ρ 10=.int .i64 nn∧ρ 11 = rfl_∧True) ⟨y9,y10,y11,trivial⟩ ?_
          rintro ρ ⟨z9, z10, z11, -⟩
          obtain ⟨_, R15⟩ : ∃ F, Kd.R i64 w507 F rfl_ (flD t nn) := Hold.row H7 2 rfl
          refine rg (r (mv z11) (r (ln Try.underlying22 E (R15)) (r (bi E E E) (r (sa E) (re (rt ?_))))))
          exact fin1 (v := .bool (decide (((flD t nn).length : Int) = 0))) Try.results10 E ⟨congrArg Value.bool (by rw [flD_nil (.inr (by omega))]; simp),Hold.ch H7⟩
         ·obtain ⟨hF1, hF2⟩ := flD_full (t := t) (n := nn) (by omega) (by omega)
          refine sk (sq (sq ?_))
          refine gen (fun ρ=>ρ 9 = o2∧ρ 10=.int .i64 nn∧ρ 11 = rfl_∧True) ⟨y9,y10,y11,trivial⟩ ?_
          rintro ρ ⟨z9, z10, z11, -⟩
          obtain ⟨_, R15⟩ : ∃ F, Kd.R i64 w507 F rfl_ (flD t nn) := Hold.row H7 2 rfl
          refine rg (r (mv z11) (r (ln Try.underlying22 E (R15)) (r (mv z10) (r (bi E E E) (re ?_)))))
          refine cf ((E : _ = Value.bool (!decide (((flD t nn).length : Int) = nn))).trans (congrArg Value.bool (show (!decide (((flD t nn).length : Int) = nn)) = false from (by rw [decide_eq_true hF1]; rfl)))) ?_
          refine sk (sq (rg (r (sa E) (re (sq (sq (rg (r (sa E) (re (bl ?_))))))))))
          refine lp (α := Nat) (fun i ρ w' => ρ 9 = o2∧ρ 10=.int .i64 nn∧ρ 11 = rfl_∧ρ 14=.int .i64 ((freeN t i).length : Int)∧ρ 15=.int .i64 (i : Int)∧Hold w [] w' [rR i64 2 o1 cs,rR kE 70 o2 t,rR i64 efl rfl_ (flD t nn)]∧i ≤ t.length) (fun i => t.length - i) 0 ?_ ?_
          ·exact ⟨z9,z10,z11,E,E,H7,by omega⟩
          clear H7
          rintro i ρ w508 ⟨y9, y10, y11, y14, y15, H8, hi2⟩
          obtain ⟨_, R16⟩ : ∃ F, Kd.R kE w508 F o2 t := Hold.row H8 1 rfl
          refine sq (sq (rg (r (mv y15) (r (mv y9) (r (ln Try.underlying57 E (R16)) (r (bi E E E) (r (mv E) ?_)))))))
          refine sp 205 E (fun hm1 => ?_) (fun hm1 => ?_)
          ·refine gy E E E (r (mv y14) (gy E E E (r (mv y10) (gy E E E (r (bi E E E) (r (pk E E) (re ?_)))))))
           refine cp E (fun hm2 => ?_) (fun hm2 => ?_)
           ·have hi3 : i < t.length := by omega
            have hfl := freeN_len t i
            refine sk (sq (bl (sq (rg (r (mv y9) (r (mv y15) ?_))))))
            obtain ⟨c214_17, ad214_17, k214_17, e214_17, p214_17⟩ := Kd.R.place R16 i (hi3)
            have q214_17 := en_at p214_17
            refine r (ix (j := i) Try.underlying57 ti70 e214_17 E (hi3)) (r (fa' Try.underlying70 E ti2 E E) (r (ld Try.underlying2 E E (q214_17 0 _ E)) (r (bi E E E) (re ?_))))
            refine cp E (fun hz => ?_) (fun hz => ?_)
            ·have hkl : (freeN t i).length < (flD t nn).length := by omega
             have hAt : (flD t nn)[(freeN t i).length] = (i : Int) + 1 := by
              have h9 := (hF2 _ hm2).trans (freeN_at hi3 hz)
              rw [List.getElem?_eq_getElem hkl] at h9; exact Option.some.inj h9
             obtain ⟨kk, hkk⟩ : ∃ k, k = (freeN t i).length := ⟨_, rfl⟩
             refine sq (sq ?_)
             refine gen (fun ρ=>ρ 9 = o2∧ρ 10=.int .i64 nn∧ρ 11 = rfl_∧ρ 14=.int .i64 ((freeN t i).length : Int)∧ρ 15=.int .i64 (i : Int)∧True) ⟨y9,y10,y11,y14,y15,trivial⟩ ?_
             rintro ρ ⟨z9, z10, z11, z14, z15, -⟩
             obtain ⟨_, R18⟩ : ∃ F, Kd.R i64 w508 F rfl_ (flD t nn) := Hold.row H8 2 rfl
             refine rg (r (mv z11) (r (mv z14) ?_))
             obtain ⟨c220_19, ad220_19, k220_19, e220_19, p220_19⟩ := Kd.R.place R18 ((freeN t i).length) (hkl)
             refine r (ix (j := (freeN t i).length) Try.underlying22 ti2 e220_19 E (hkl)) (r (ld Try.underlying2 E E p220_19.cell) (r (mv z15) (r (ad (a := (i : Int)) (b := 1) ((i : Int) + 1) E E (by omega)) (r (bi E E E) (re ?_)))))
             refine cf ((E : _ = Value.bool (!decide (((flD t nn)[(freeN t i).length]) = ((i : Int) + 1)))).trans (congrArg Value.bool (show (!decide (((flD t nn)[(freeN t i).length]) = ((i : Int) + 1))) = false from (by rw [decide_eq_true hAt]; rfl)))) ?_
             refine sk (rg (r (mv z14) (r (ad (a := ((freeN t i).length : Int)) (b := 1) (((freeN t (i + 1)).length : Int)) E E (by rw [freeN_yes hi3 hz]; simp; omega)) (r (sa E) (re (be ?_))))))
             refine gen (fun ρ=>ρ 9 = o2∧ρ 10=.int .i64 nn∧ρ 11 = rfl_∧ρ 14=.int .i64 ((freeN t (i + 1)).length : Int)∧ρ 15=.int .i64 (i : Int)∧True) ⟨z9,z10,z11,E,z15,trivial⟩ ?_
             rintro ρ ⟨z9, z10, z11, z14, z15, -⟩
             refine rg (r (mv z15) (r (ad (a := (i : Int)) (b := 1) ((i : Int) + 1) E E (by omega)) (r (sa E) (re ?_))))
             exact ag (i + 1) ⟨z9,z10,z11,z14,E,H8,by omega⟩ (by first | omega | (dsimp only; omega))
            ·refine sk (be ?_)
             refine gen (fun ρ=>ρ 9 = o2∧ρ 10=.int .i64 nn∧ρ 11 = rfl_∧ρ 14=.int .i64 ((freeN t i).length : Int)∧ρ 15=.int .i64 (i : Int)∧True) ⟨y9,y10,y11,y14,y15,trivial⟩ ?_
             rintro ρ ⟨z9, z10, z11, z14, z15, -⟩
             refine rg (r (mv z15) (r (ad (a := (i : Int)) (b := 1) ((i : Int) + 1) E E (by omega)) (r (sa E) (re ?_))))
             rw [← freeN_no hi3 hz] at z14
             exact ag (i + 1) ⟨z9,z10,z11,z14,E,H8,by omega⟩ (by first | omega | (dsimp only; omega))
           ·refine ex E (sq (rg (r (sa E) (re (rt ?_)))))
            exact fin1 (v := .bool true) Try.results10 E ⟨E,Hold.ch H8⟩
          ·refine gn E E E (gn E E E (gn E E E (r (pk E E) (re (cf E (ex E (sq (rg (r (sa E) (re (rt ?_)))))))))))
           exact fin1 (v := .bool true) Try.results10 E ⟨E,Hold.ch H8⟩
     ·refine gn E E E (gn E E E (gn E E E (gn E E E (gu E E E (gu E E E (gu E E E (gu E E E (gu E E E (gn E E E (gy E E E (r (pk E E) (r (pk E E) (re (cf E (sk (sq (sq ?_)))))))))))))))))
      refine gen (fun ρ=>ρ 0 = v∧ρ 2=.bool false∧ρ 3 = o1∧ρ 4=.int .i64 aq∧ρ 5=.int .i64 mz∧ρ 6=.int .i64 (j : Int)∧ρ 7=.int .i64 (f : Int)∧True) ⟨z0,z2,z3,z4,z5,z6,z7,trivial⟩ ?_
      rintro ρ ⟨z0, z2, z3, z4, z5, z6, z7, -⟩
      refine rg (r (sa E) (re (bl ?_)))
      refine lp (α := Nat) (fun i ρ w' => ρ 0 = v∧ρ 3 = o1∧ρ 4=.int .i64 aq∧ρ 5=.int .i64 mz∧ρ 6=.int .i64 (j : Int)∧ρ 7=.int .i64 (f : Int)∧ρ 8=.int .i64 (i : Int)∧Hold w [] w' [rR i64 2 o1 cs]∧i ≤ cs.length) (fun i => cs.length - i) 0 ?_ ?_
      ·exact ⟨z0,z3,z4,z5,z6,z7,E,H3,by omega⟩
      clear H3
      rintro i ρ w504 ⟨y0, y3, y4, y5, y6, y7, y8, H4, hi⟩
      obtain ⟨_, R9⟩ : ∃ F, Kd.R i64 w504 F o1 cs := Hold.row H4 0 rfl
      refine sq (sq (rg (r (mv y8) (r (mv y3) (r (ln Try.underlying22 E (R9)) (r (bi E E E) (re ?_)))))))
      refine cp E (fun hlt => ?_) (fun hlt => ?_)
      ·have hi' : i < cs.length := by omega
       have hvi := hjm i hi'
       simp only [inside_iff] at hvi
       have hwi := hfm i hi'
       simp only [decide_eq_true_eq] at hwi
       refine sk (sq (bl (sq (sq (rg (r (mv y8) (r (mv y4) (r (bi E E E) (r (mv E) ?_)))))))))
       refine spn 97 E (fun k87 => ?_) (fun k87 => ?_)
       ·refine gy E E E (r (mv y3) (gy E E E (r (mv y8) (gy E E E ?_))))
        obtain ⟨c100_10, ad100_10, k100_10, e100_10, p100_10⟩ := Kd.R.place R9 i (hi')
        refine r (ix (j := i) Try.underlying22 ti2 e100_10 E (hi')) (gy E E E (r (ld Try.underlying2 E E p100_10.cell) (gy E E E (r (bi E E E) (r (pk E E) (r (mv E) ?_))))))
        refine sp 104 E (fun k88 => ?_) (fun k88 => ?_)
        ·refine gy E E E (r (mv y3) (gy E E E (r (mv y8) (gy E E E ?_))))
         obtain ⟨c107_11, ad107_11, k107_11, e107_11, p107_11⟩ := Kd.R.place R9 i (hi')
         refine r (ix (j := i) Try.underlying22 ti2 e107_11 E (hi')) (gy E E E (r (ld Try.underlying2 E E p107_11.cell) (gy E E E (r (mv y5) (gy E E E (r (bi E E E) (r (pk E E) (r (mv E) ?_))))))))
         refine sp 112 E (fun k89 => ?_) (fun k89 => ?_)
         ·refine gy E E E (r (mv y8) (gy E E E (r (mv y6) (gy E E E (r (bi E E E) (r (pk E E) (re ?_)))))))
          refine cpn E (fun k90 => ?_) (fun k90 => ?_)
          ·refine sq ?_
           refine gen (fun ρ=>ρ 0 = v∧ρ 3 = o1∧ρ 4=.int .i64 aq∧ρ 5=.int .i64 mz∧ρ 6=.int .i64 (j : Int)∧ρ 7=.int .i64 (f : Int)∧ρ 8=.int .i64 (i : Int)∧True) ⟨y0,y3,y4,y5,y6,y7,y8,trivial⟩ ?_
           rintro ρ ⟨z0, z3, z4, z5, z6, z7, z8, -⟩
           refine rd mixed (by kernel_rfl) (q (mv z6) (q (bi E E E) (q (mv E) ?_)))
           refine spfq 119 E (show (decide ((j : Int) < 0)) = false from (decide_eq_false (by omega))) ?_
           refine gyq E E E (q (mv z3) (gyq E E E (q (mv z8) (gyq E E E ?_))))
           obtain ⟨c122_12, ad122_12, k122_12, e122_12, p122_12⟩ := Kd.R.place R9 i (hi')
           refine q (ix (j := i) Try.underlying22 ti2 e122_12 E (hi')) (gyq E E E (q (ld Try.underlying2 E E p122_12.cell) (gyq E E E (q (mv z3) (gyq E E E (q (mv z6) (gyq E E E ?_)))))))
           obtain ⟨c126_13, ad126_13, k126_13, e126_13, p126_13⟩ := Kd.R.place R9 j (hj)
           refine q (ix (j := j) Try.underlying22 ti2 e126_13 E (hj)) (gyq E E E (q (ld Try.underlying2 E E p126_13.cell) (gyq E E E (q (bi E E E) (q (pk E E) (q (mv E) ?_))))))
           refine spfq 130 E (show (decide ((cs[i]) < (cs[j]))) = false from (decide_eq_false (by omega))) ?_
           refine gyq E E E (q (mv z3) (gyq E E E (q (mv z8) (gyq E E E ?_))))
           obtain ⟨c133_14, ad133_14, k133_14, e133_14, p133_14⟩ := Kd.R.place R9 i (hi')
           refine q (ix (j := i) Try.underlying22 ti2 e133_14 E (hi')) (gyq E E E (q (ld Try.underlying2 E E p133_14.cell) (gyq E E E (q (mv z3) (gyq E E E (q (mv z6) (gyq E E E ?_)))))))
           obtain ⟨c137_15, ad137_15, k137_15, e137_15, p137_15⟩ := Kd.R.place R9 j (hj)
           refine q (ix (j := j) Try.underlying22 ti2 e137_15 E (hj)) (gyq E E E (q (ld Try.underlying2 E E p137_15.cell) (gyq E E E (q (bi E E E) (gyq E E E (q (mv E) ?_))))))
           refine spq 140 E (fun k91 => ?_) (fun k91 => ?_)
           ·refine gyq E E E (q (mv z8) (gyq E E E (q (mv z6) (gyq E E E (q (bi E E E) (gyq E E E (q (pk E E) (q (pk E E) (me ?_)))))))))
            intro w1 c1
            have H5 : Hold w [] w1 [rR i64 2 o1 cs] := Hold.t H4 c1
            clear H4
            refine cf ((E : _ = Value.bool (decide ((i : Int) < (j : Int)))).trans (congrArg Value.bool (show (decide ((i : Int) < (j : Int))) = false from (decide_eq_false (by omega))))) ?_
            refine sk (sq ?_)
            refine gen (fun ρ=>ρ 0 = v∧ρ 3 = o1∧ρ 4=.int .i64 aq∧ρ 5=.int .i64 mz∧ρ 6=.int .i64 (j : Int)∧ρ 7=.int .i64 (f : Int)∧ρ 8=.int .i64 (i : Int)∧True) ⟨z0,z3,z4,z5,z6,z7,z8,trivial⟩ ?_
            rintro ρ ⟨z0, z3, z4, z5, z6, z7, z8, -⟩
            refine rg (r (mv z8) (r (mv z4) (r (bi E E E) (r (mv E) ?_))))
            refine spn 149 E (fun k92 => ?_) (fun k92 => ?_)
            ·obtain ⟨_, R16⟩ : ∃ F, Kd.R i64 w1 F o1 cs := Hold.row H5 0 rfl
             refine gy E E E (r (mv z3) (gy E E E (r (mv z8) (gy E E E ?_))))
             obtain ⟨c152_17, ad152_17, k152_17, e152_17, p152_17⟩ := Kd.R.place R16 i (hi')
             refine r (ix (j := i) Try.underlying22 ti2 e152_17 E (hi')) (gy E E E (r (ld Try.underlying2 E E p152_17.cell) (gy E E E (r (bi E E E) (r (pk E E) (r (mv E) ?_))))))
             refine sp 156 E (fun k93 => ?_) (fun k93 => ?_)
             ·refine gy E E E (r (mv z7) (gy E E E (r (bi E E E) (gy E E E (r (mv E) ?_)))))
              refine spf 159 E (show (decide ((f : Int) < 0)) = false from (decide_eq_false (by omega))) ?_
              refine gy E E E (r (mv z8) (gy E E E (r (mv z7) (gy E E E (r (bi E E E) (gy E E E (r (pk E E) (r (pk E E) (re ?_)))))))))
              refine cf ((E : _ = Value.bool (decide ((i : Int) < (f : Int)))).trans (congrArg Value.bool (show (decide ((i : Int) < (f : Int))) = false from (decide_eq_false (by omega))))) ?_
              refine sk (be ?_)
              refine gen (fun ρ=>ρ 0 = v∧ρ 3 = o1∧ρ 4=.int .i64 aq∧ρ 5=.int .i64 mz∧ρ 6=.int .i64 (j : Int)∧ρ 7=.int .i64 (f : Int)∧ρ 8=.int .i64 (i : Int)∧True) ⟨z0,z3,z4,z5,z6,z7,z8,trivial⟩ ?_
              rintro ρ ⟨z0, z3, z4, z5, z6, z7, z8, -⟩
              refine rg (r (mv z8) (r (ad (a := (i : Int)) (b := 1) ((i : Int) + 1) E E (by omega)) (r (sa E) (re ?_))))
              exact ag (i + 1) ⟨z0,z3,z4,z5,z6,z7,E,H5,by omega⟩ (by first | omega | (dsimp only; omega))
             ·refine gn E E E (gn E E E (gn E E E (gu E E E (gu E E E (gu E E E (gn E E E (r (pk E E) (re (cf E (sk (be ?_)))))))))))
              refine gen (fun ρ=>ρ 0 = v∧ρ 3 = o1∧ρ 4=.int .i64 aq∧ρ 5=.int .i64 mz∧ρ 6=.int .i64 (j : Int)∧ρ 7=.int .i64 (f : Int)∧ρ 8=.int .i64 (i : Int)∧True) ⟨z0,z3,z4,z5,z6,z7,z8,trivial⟩ ?_
              rintro ρ ⟨z0, z3, z4, z5, z6, z7, z8, -⟩
              refine rg (r (mv z8) (r (ad (a := (i : Int)) (b := 1) ((i : Int) + 1) E E (by omega)) (r (sa E) (re ?_))))
              exact ag (i + 1) ⟨z0,z3,z4,z5,z6,z7,E,H5,by omega⟩ (by first | omega | (dsimp only; omega))
            ·refine gn E E E (gn E E E (gn E E E (gn E E E (gn E E E (r (pk E E) (r (mv E) (gn E E E (gn E E E (gn E E E (gu E E E (gu E E E (gu E E E (gn E E E (r (pk E E) (re (cf E (sk (be ?_))))))))))))))))))
             refine gen (fun ρ=>ρ 0 = v∧ρ 3 = o1∧ρ 4=.int .i64 aq∧ρ 5=.int .i64 mz∧ρ 6=.int .i64 (j : Int)∧ρ 7=.int .i64 (f : Int)∧ρ 8=.int .i64 (i : Int)∧True) ⟨z0,z3,z4,z5,z6,z7,z8,trivial⟩ ?_
             rintro ρ ⟨z0, z3, z4, z5, z6, z7, z8, -⟩
             refine rg (r (mv z8) (r (ad (a := (i : Int)) (b := 1) ((i : Int) + 1) E E (by omega)) (r (sa E) (re ?_))))
             exact ag (i + 1) ⟨z0,z3,z4,z5,z6,z7,E,H5,by omega⟩ (by first | omega | (dsimp only; omega))
           ·refine gnq E E E (gnq E E E (gnq E E E (gyq E E E (q (pk E E) (q (pk E E) (me ?_))))))
            intro w1 c1
            have H5 : Hold w [] w1 [rR i64 2 o1 cs] := Hold.t H4 c1
            clear H4
            refine cf E (sk (sq ?_))
            refine gen (fun ρ=>ρ 0 = v∧ρ 3 = o1∧ρ 4=.int .i64 aq∧ρ 5=.int .i64 mz∧ρ 6=.int .i64 (j : Int)∧ρ 7=.int .i64 (f : Int)∧ρ 8=.int .i64 (i : Int)∧True) ⟨z0,z3,z4,z5,z6,z7,z8,trivial⟩ ?_
            rintro ρ ⟨z0, z3, z4, z5, z6, z7, z8, -⟩
            refine rg (r (mv z8) (r (mv z4) (r (bi E E E) (r (mv E) ?_))))
            refine spn 149 E (fun k94 => ?_) (fun k94 => ?_)
            ·obtain ⟨_, R16⟩ : ∃ F, Kd.R i64 w1 F o1 cs := Hold.row H5 0 rfl
             refine gy E E E (r (mv z3) (gy E E E (r (mv z8) (gy E E E ?_))))
             obtain ⟨c152_17, ad152_17, k152_17, e152_17, p152_17⟩ := Kd.R.place R16 i (hi')
             refine r (ix (j := i) Try.underlying22 ti2 e152_17 E (hi')) (gy E E E (r (ld Try.underlying2 E E p152_17.cell) (gy E E E (r (bi E E E) (r (pk E E) (r (mv E) ?_))))))
             refine sp 156 E (fun k95 => ?_) (fun k95 => ?_)
             ·refine gy E E E (r (mv z7) (gy E E E (r (bi E E E) (gy E E E (r (mv E) ?_)))))
              refine spf 159 E (show (decide ((f : Int) < 0)) = false from (decide_eq_false (by omega))) ?_
              refine gy E E E (r (mv z8) (gy E E E (r (mv z7) (gy E E E (r (bi E E E) (gy E E E (r (pk E E) (r (pk E E) (re ?_)))))))))
              refine cf ((E : _ = Value.bool (decide ((i : Int) < (f : Int)))).trans (congrArg Value.bool (show (decide ((i : Int) < (f : Int))) = false from (decide_eq_false (by omega))))) ?_
              refine sk (be ?_)
              refine gen (fun ρ=>ρ 0 = v∧ρ 3 = o1∧ρ 4=.int .i64 aq∧ρ 5=.int .i64 mz∧ρ 6=.int .i64 (j : Int)∧ρ 7=.int .i64 (f : Int)∧ρ 8=.int .i64 (i : Int)∧True) ⟨z0,z3,z4,z5,z6,z7,z8,trivial⟩ ?_
              rintro ρ ⟨z0, z3, z4, z5, z6, z7, z8, -⟩
              refine rg (r (mv z8) (r (ad (a := (i : Int)) (b := 1) ((i : Int) + 1) E E (by omega)) (r (sa E) (re ?_))))
              exact ag (i + 1) ⟨z0,z3,z4,z5,z6,z7,E,H5,by omega⟩ (by first | omega | (dsimp only; omega))
             ·refine gn E E E (gn E E E (gn E E E (gu E E E (gu E E E (gu E E E (gn E E E (r (pk E E) (re (cf E (sk (be ?_)))))))))))
              refine gen (fun ρ=>ρ 0 = v∧ρ 3 = o1∧ρ 4=.int .i64 aq∧ρ 5=.int .i64 mz∧ρ 6=.int .i64 (j : Int)∧ρ 7=.int .i64 (f : Int)∧ρ 8=.int .i64 (i : Int)∧True) ⟨z0,z3,z4,z5,z6,z7,z8,trivial⟩ ?_
              rintro ρ ⟨z0, z3, z4, z5, z6, z7, z8, -⟩
              refine rg (r (mv z8) (r (ad (a := (i : Int)) (b := 1) ((i : Int) + 1) E E (by omega)) (r (sa E) (re ?_))))
              exact ag (i + 1) ⟨z0,z3,z4,z5,z6,z7,E,H5,by omega⟩ (by first | omega | (dsimp only; omega))
            ·refine gn E E E (gn E E E (gn E E E (gn E E E (gn E E E (r (pk E E) (r (mv E) (gn E E E (gn E E E (gn E E E (gu E E E (gu E E E (gu E E E (gn E E E (r (pk E E) (re (cf E (sk (be ?_))))))))))))))))))
             refine gen (fun ρ=>ρ 0 = v∧ρ 3 = o1∧ρ 4=.int .i64 aq∧ρ 5=.int .i64 mz∧ρ 6=.int .i64 (j : Int)∧ρ 7=.int .i64 (f : Int)∧ρ 8=.int .i64 (i : Int)∧True) ⟨z0,z3,z4,z5,z6,z7,z8,trivial⟩ ?_
             rintro ρ ⟨z0, z3, z4, z5, z6, z7, z8, -⟩
             refine rg (r (mv z8) (r (ad (a := (i : Int)) (b := 1) ((i : Int) + 1) E E (by omega)) (r (sa E) (re ?_))))
             exact ag (i + 1) ⟨z0,z3,z4,z5,z6,z7,E,H5,by omega⟩ (by first | omega | (dsimp only; omega))
          ·refine sk (sq ?_)
           refine gen (fun ρ=>ρ 0 = v∧ρ 3 = o1∧ρ 4=.int .i64 aq∧ρ 5=.int .i64 mz∧ρ 6=.int .i64 (j : Int)∧ρ 7=.int .i64 (f : Int)∧ρ 8=.int .i64 (i : Int)∧True) ⟨y0,y3,y4,y5,y6,y7,y8,trivial⟩ ?_
           rintro ρ ⟨z0, z3, z4, z5, z6, z7, z8, -⟩
           refine rg (r (mv z8) (r (mv z4) (r (bi E E E) (r (mv E) ?_))))
           refine spn 149 E (fun k96 => ?_) (fun k96 => ?_)
           ·refine gy E E E (r (mv z3) (gy E E E (r (mv z8) (gy E E E ?_))))
            obtain ⟨c152_12, ad152_12, k152_12, e152_12, p152_12⟩ := Kd.R.place R9 i (hi')
            refine r (ix (j := i) Try.underlying22 ti2 e152_12 E (hi')) (gy E E E (r (ld Try.underlying2 E E p152_12.cell) (gy E E E (r (bi E E E) (r (pk E E) (r (mv E) ?_))))))
            refine sp 156 E (fun k97 => ?_) (fun k97 => ?_)
            ·refine gy E E E (r (mv z7) (gy E E E (r (bi E E E) (gy E E E (r (mv E) ?_)))))
             refine spf 159 E (show (decide ((f : Int) < 0)) = false from (decide_eq_false (by omega))) ?_
             refine gy E E E (r (mv z8) (gy E E E (r (mv z7) (gy E E E (r (bi E E E) (gy E E E (r (pk E E) (r (pk E E) (re ?_)))))))))
             refine cf ((E : _ = Value.bool (decide ((i : Int) < (f : Int)))).trans (congrArg Value.bool (show (decide ((i : Int) < (f : Int))) = false from (decide_eq_false (by omega))))) ?_
             refine sk (be ?_)
             refine gen (fun ρ=>ρ 0 = v∧ρ 3 = o1∧ρ 4=.int .i64 aq∧ρ 5=.int .i64 mz∧ρ 6=.int .i64 (j : Int)∧ρ 7=.int .i64 (f : Int)∧ρ 8=.int .i64 (i : Int)∧True) ⟨z0,z3,z4,z5,z6,z7,z8,trivial⟩ ?_
             rintro ρ ⟨z0, z3, z4, z5, z6, z7, z8, -⟩
             refine rg (r (mv z8) (r (ad (a := (i : Int)) (b := 1) ((i : Int) + 1) E E (by omega)) (r (sa E) (re ?_))))
             exact ag (i + 1) ⟨z0,z3,z4,z5,z6,z7,E,H4,by omega⟩ (by first | omega | (dsimp only; omega))
            ·refine gn E E E (gn E E E (gn E E E (gu E E E (gu E E E (gu E E E (gn E E E (r (pk E E) (re (cf E (sk (be ?_)))))))))))
             refine gen (fun ρ=>ρ 0 = v∧ρ 3 = o1∧ρ 4=.int .i64 aq∧ρ 5=.int .i64 mz∧ρ 6=.int .i64 (j : Int)∧ρ 7=.int .i64 (f : Int)∧ρ 8=.int .i64 (i : Int)∧True) ⟨z0,z3,z4,z5,z6,z7,z8,trivial⟩ ?_
             rintro ρ ⟨z0, z3, z4, z5, z6, z7, z8, -⟩
             refine rg (r (mv z8) (r (ad (a := (i : Int)) (b := 1) ((i : Int) + 1) E E (by omega)) (r (sa E) (re ?_))))
             exact ag (i + 1) ⟨z0,z3,z4,z5,z6,z7,E,H4,by omega⟩ (by first | omega | (dsimp only; omega))
           ·refine gn E E E (gn E E E (gn E E E (gn E E E (gn E E E (r (pk E E) (r (mv E) (gn E E E (gn E E E (gn E E E (gu E E E (gu E E E (gu E E E (gn E E E (r (pk E E) (re (cf E (sk (be ?_))))))))))))))))))
            refine gen (fun ρ=>ρ 0 = v∧ρ 3 = o1∧ρ 4=.int .i64 aq∧ρ 5=.int .i64 mz∧ρ 6=.int .i64 (j : Int)∧ρ 7=.int .i64 (f : Int)∧ρ 8=.int .i64 (i : Int)∧True) ⟨z0,z3,z4,z5,z6,z7,z8,trivial⟩ ?_
            rintro ρ ⟨z0, z3, z4, z5, z6, z7, z8, -⟩
            refine rg (r (mv z8) (r (ad (a := (i : Int)) (b := 1) ((i : Int) + 1) E E (by omega)) (r (sa E) (re ?_))))
            exact ag (i + 1) ⟨z0,z3,z4,z5,z6,z7,E,H4,by omega⟩ (by first | omega | (dsimp only; omega))
         ·refine gn E E E (gn E E E (gn E E E (r (pk E E) (re (cf E (sk (sq ?_)))))))
          refine gen (fun ρ=>ρ 0 = v∧ρ 3 = o1∧ρ 4=.int .i64 aq∧ρ 5=.int .i64 mz∧ρ 6=.int .i64 (j : Int)∧ρ 7=.int .i64 (f : Int)∧ρ 8=.int .i64 (i : Int)∧True) ⟨y0,y3,y4,y5,y6,y7,y8,trivial⟩ ?_
          rintro ρ ⟨z0, z3, z4, z5, z6, z7, z8, -⟩
          refine rg (r (mv z8) (r (mv z4) (r (bi E E E) (r (mv E) ?_))))
          refine spn 149 E (fun k98 => ?_) (fun k98 => ?_)
          ·refine gy E E E (r (mv z3) (gy E E E (r (mv z8) (gy E E E ?_))))
           obtain ⟨c152_12, ad152_12, k152_12, e152_12, p152_12⟩ := Kd.R.place R9 i (hi')
           refine r (ix (j := i) Try.underlying22 ti2 e152_12 E (hi')) (gy E E E (r (ld Try.underlying2 E E p152_12.cell) (gy E E E (r (bi E E E) (r (pk E E) (r (mv E) ?_))))))
           refine sp 156 E (fun k99 => ?_) (fun k99 => ?_)
           ·refine gy E E E (r (mv z7) (gy E E E (r (bi E E E) (gy E E E (r (mv E) ?_)))))
            refine spf 159 E (show (decide ((f : Int) < 0)) = false from (decide_eq_false (by omega))) ?_
            refine gy E E E (r (mv z8) (gy E E E (r (mv z7) (gy E E E (r (bi E E E) (gy E E E (r (pk E E) (r (pk E E) (re ?_)))))))))
            refine cf ((E : _ = Value.bool (decide ((i : Int) < (f : Int)))).trans (congrArg Value.bool (show (decide ((i : Int) < (f : Int))) = false from (decide_eq_false (by omega))))) ?_
            refine sk (be ?_)
            refine gen (fun ρ=>ρ 0 = v∧ρ 3 = o1∧ρ 4=.int .i64 aq∧ρ 5=.int .i64 mz∧ρ 6=.int .i64 (j : Int)∧ρ 7=.int .i64 (f : Int)∧ρ 8=.int .i64 (i : Int)∧True) ⟨z0,z3,z4,z5,z6,z7,z8,trivial⟩ ?_
            rintro ρ ⟨z0, z3, z4, z5, z6, z7, z8, -⟩
            refine rg (r (mv z8) (r (ad (a := (i : Int)) (b := 1) ((i : Int) + 1) E E (by omega)) (r (sa E) (re ?_))))
            exact ag (i + 1) ⟨z0,z3,z4,z5,z6,z7,E,H4,by omega⟩ (by first | omega | (dsimp only; omega))
           ·refine gn E E E (gn E E E (gn E E E (gu E E E (gu E E E (gu E E E (gn E E E (r (pk E E) (re (cf E (sk (be ?_)))))))))))
            refine gen (fun ρ=>ρ 0 = v∧ρ 3 = o1∧ρ 4=.int .i64 aq∧ρ 5=.int .i64 mz∧ρ 6=.int .i64 (j : Int)∧ρ 7=.int .i64 (f : Int)∧ρ 8=.int .i64 (i : Int)∧True) ⟨z0,z3,z4,z5,z6,z7,z8,trivial⟩ ?_
            rintro ρ ⟨z0, z3, z4, z5, z6, z7, z8, -⟩
            refine rg (r (mv z8) (r (ad (a := (i : Int)) (b := 1) ((i : Int) + 1) E E (by omega)) (r (sa E) (re ?_))))
            exact ag (i + 1) ⟨z0,z3,z4,z5,z6,z7,E,H4,by omega⟩ (by first | omega | (dsimp only; omega))
          ·refine gn E E E (gn E E E (gn E E E (gn E E E (gn E E E (r (pk E E) (r (mv E) (gn E E E (gn E E E (gn E E E (gu E E E (gu E E E (gu E E E (gn E E E (r (pk E E) (re (cf E (sk (be ?_))))))))))))))))))
           refine gen (fun ρ=>ρ 0 = v∧ρ 3 = o1∧ρ 4=.int .i64 aq∧ρ 5=.int .i64 mz∧ρ 6=.int .i64 (j : Int)∧ρ 7=.int .i64 (f : Int)∧ρ 8=.int .i64 (i : Int)∧True) ⟨z0,z3,z4,z5,z6,z7,z8,trivial⟩ ?_
           rintro ρ ⟨z0, z3, z4, z5, z6, z7, z8, -⟩
           refine rg (r (mv z8) (r (ad (a := (i : Int)) (b := 1) ((i : Int) + 1) E E (by omega)) (r (sa E) (re ?_))))
           exact ag (i + 1) ⟨z0,z3,z4,z5,z6,z7,E,H4,by omega⟩ (by first | omega | (dsimp only; omega))
        ·refine gn E E E (gn E E E (gn E E E (gn E E E (gn E E E (gn E E E (r (pk E E) (r (mv E) (gn E E E (gn E E E (gn E E E (r (pk E E) (re (cf E (sk (sq ?_)))))))))))))))
         refine gen (fun ρ=>ρ 0 = v∧ρ 3 = o1∧ρ 4=.int .i64 aq∧ρ 5=.int .i64 mz∧ρ 6=.int .i64 (j : Int)∧ρ 7=.int .i64 (f : Int)∧ρ 8=.int .i64 (i : Int)∧True) ⟨y0,y3,y4,y5,y6,y7,y8,trivial⟩ ?_
         rintro ρ ⟨z0, z3, z4, z5, z6, z7, z8, -⟩
         refine rg (r (mv z8) (r (mv z4) (r (bi E E E) (r (mv E) ?_))))
         refine spn 149 E (fun k100 => ?_) (fun k100 => ?_)
         ·refine gy E E E (r (mv z3) (gy E E E (r (mv z8) (gy E E E ?_))))
          obtain ⟨c152_11, ad152_11, k152_11, e152_11, p152_11⟩ := Kd.R.place R9 i (hi')
          refine r (ix (j := i) Try.underlying22 ti2 e152_11 E (hi')) (gy E E E (r (ld Try.underlying2 E E p152_11.cell) (gy E E E (r (bi E E E) (r (pk E E) (r (mv E) ?_))))))
          refine sp 156 E (fun k101 => ?_) (fun k101 => ?_)
          ·refine gy E E E (r (mv z7) (gy E E E (r (bi E E E) (gy E E E (r (mv E) ?_)))))
           refine spf 159 E (show (decide ((f : Int) < 0)) = false from (decide_eq_false (by omega))) ?_
           refine gy E E E (r (mv z8) (gy E E E (r (mv z7) (gy E E E (r (bi E E E) (gy E E E (r (pk E E) (r (pk E E) (re ?_)))))))))
           refine cf ((E : _ = Value.bool (decide ((i : Int) < (f : Int)))).trans (congrArg Value.bool (show (decide ((i : Int) < (f : Int))) = false from (decide_eq_false (by omega))))) ?_
           refine sk (be ?_)
           refine gen (fun ρ=>ρ 0 = v∧ρ 3 = o1∧ρ 4=.int .i64 aq∧ρ 5=.int .i64 mz∧ρ 6=.int .i64 (j : Int)∧ρ 7=.int .i64 (f : Int)∧ρ 8=.int .i64 (i : Int)∧True) ⟨z0,z3,z4,z5,z6,z7,z8,trivial⟩ ?_
           rintro ρ ⟨z0, z3, z4, z5, z6, z7, z8, -⟩
           refine rg (r (mv z8) (r (ad (a := (i : Int)) (b := 1) ((i : Int) + 1) E E (by omega)) (r (sa E) (re ?_))))
           exact ag (i + 1) ⟨z0,z3,z4,z5,z6,z7,E,H4,by omega⟩ (by first | omega | (dsimp only; omega))
          ·refine gn E E E (gn E E E (gn E E E (gu E E E (gu E E E (gu E E E (gn E E E (r (pk E E) (re (cf E (sk (be ?_)))))))))))
           refine gen (fun ρ=>ρ 0 = v∧ρ 3 = o1∧ρ 4=.int .i64 aq∧ρ 5=.int .i64 mz∧ρ 6=.int .i64 (j : Int)∧ρ 7=.int .i64 (f : Int)∧ρ 8=.int .i64 (i : Int)∧True) ⟨z0,z3,z4,z5,z6,z7,z8,trivial⟩ ?_
           rintro ρ ⟨z0, z3, z4, z5, z6, z7, z8, -⟩
           refine rg (r (mv z8) (r (ad (a := (i : Int)) (b := 1) ((i : Int) + 1) E E (by omega)) (r (sa E) (re ?_))))
           exact ag (i + 1) ⟨z0,z3,z4,z5,z6,z7,E,H4,by omega⟩ (by first | omega | (dsimp only; omega))
         ·refine gn E E E (gn E E E (gn E E E (gn E E E (gn E E E (r (pk E E) (r (mv E) (gn E E E (gn E E E (gn E E E (gu E E E (gu E E E (gu E E E (gn E E E (r (pk E E) (re (cf E (sk (be ?_))))))))))))))))))
          refine gen (fun ρ=>ρ 0 = v∧ρ 3 = o1∧ρ 4=.int .i64 aq∧ρ 5=.int .i64 mz∧ρ 6=.int .i64 (j : Int)∧ρ 7=.int .i64 (f : Int)∧ρ 8=.int .i64 (i : Int)∧True) ⟨z0,z3,z4,z5,z6,z7,z8,trivial⟩ ?_
          rintro ρ ⟨z0, z3, z4, z5, z6, z7, z8, -⟩
          refine rg (r (mv z8) (r (ad (a := (i : Int)) (b := 1) ((i : Int) + 1) E E (by omega)) (r (sa E) (re ?_))))
          exact ag (i + 1) ⟨z0,z3,z4,z5,z6,z7,E,H4,by omega⟩ (by first | omega | (dsimp only; omega))
       ·refine gn E E E (gn E E E (gn E E E (gn E E E (gn E E E (r (pk E E) (r (mv E) (gn E E E (gn E E E (gn E E E (gn E E E (gn E E E (gn E E E (r (pk E E) (r (mv E) (gn E E E (gn E E E (gn E E E (r (pk E E) (re (cf E (sk (sq ?_))))))))))))))))))))))
        refine gen (fun ρ=>ρ 0 = v∧ρ 3 = o1∧ρ 4=.int .i64 aq∧ρ 5=.int .i64 mz∧ρ 6=.int .i64 (j : Int)∧ρ 7=.int .i64 (f : Int)∧ρ 8=.int .i64 (i : Int)∧True) ⟨y0,y3,y4,y5,y6,y7,y8,trivial⟩ ?_
        rintro ρ ⟨z0, z3, z4, z5, z6, z7, z8, -⟩
        refine rg (r (mv z8) (r (mv z4) (r (bi E E E) (r (mv E) ?_))))
        refine spn 149 E (fun k102 => ?_) (fun k102 => ?_)
        ·refine gy E E E (r (mv z3) (gy E E E (r (mv z8) (gy E E E ?_))))
         obtain ⟨c152_10, ad152_10, k152_10, e152_10, p152_10⟩ := Kd.R.place R9 i (hi')
         refine r (ix (j := i) Try.underlying22 ti2 e152_10 E (hi')) (gy E E E (r (ld Try.underlying2 E E p152_10.cell) (gy E E E (r (bi E E E) (r (pk E E) (r (mv E) ?_))))))
         refine sp 156 E (fun k103 => ?_) (fun k103 => ?_)
         ·refine gy E E E (r (mv z7) (gy E E E (r (bi E E E) (gy E E E (r (mv E) ?_)))))
          refine spf 159 E (show (decide ((f : Int) < 0)) = false from (decide_eq_false (by omega))) ?_
          refine gy E E E (r (mv z8) (gy E E E (r (mv z7) (gy E E E (r (bi E E E) (gy E E E (r (pk E E) (r (pk E E) (re ?_)))))))))
          refine cf ((E : _ = Value.bool (decide ((i : Int) < (f : Int)))).trans (congrArg Value.bool (show (decide ((i : Int) < (f : Int))) = false from (decide_eq_false (by omega))))) ?_
          refine sk (be ?_)
          refine gen (fun ρ=>ρ 0 = v∧ρ 3 = o1∧ρ 4=.int .i64 aq∧ρ 5=.int .i64 mz∧ρ 6=.int .i64 (j : Int)∧ρ 7=.int .i64 (f : Int)∧ρ 8=.int .i64 (i : Int)∧True) ⟨z0,z3,z4,z5,z6,z7,z8,trivial⟩ ?_
          rintro ρ ⟨z0, z3, z4, z5, z6, z7, z8, -⟩
          refine rg (r (mv z8) (r (ad (a := (i : Int)) (b := 1) ((i : Int) + 1) E E (by omega)) (r (sa E) (re ?_))))
          exact ag (i + 1) ⟨z0,z3,z4,z5,z6,z7,E,H4,by omega⟩ (by first | omega | (dsimp only; omega))
         ·refine gn E E E (gn E E E (gn E E E (gu E E E (gu E E E (gu E E E (gn E E E (r (pk E E) (re (cf E (sk (be ?_)))))))))))
          refine gen (fun ρ=>ρ 0 = v∧ρ 3 = o1∧ρ 4=.int .i64 aq∧ρ 5=.int .i64 mz∧ρ 6=.int .i64 (j : Int)∧ρ 7=.int .i64 (f : Int)∧ρ 8=.int .i64 (i : Int)∧True) ⟨z0,z3,z4,z5,z6,z7,z8,trivial⟩ ?_
          rintro ρ ⟨z0, z3, z4, z5, z6, z7, z8, -⟩
          refine rg (r (mv z8) (r (ad (a := (i : Int)) (b := 1) ((i : Int) + 1) E E (by omega)) (r (sa E) (re ?_))))
          exact ag (i + 1) ⟨z0,z3,z4,z5,z6,z7,E,H4,by omega⟩ (by first | omega | (dsimp only; omega))
        ·refine gn E E E (gn E E E (gn E E E (gn E E E (gn E E E (r (pk E E) (r (mv E) (gn E E E (gn E E E (gn E E E (gu E E E (gu E E E (gu E E E (gn E E E (r (pk E E) (re (cf E (sk (be ?_))))))))))))))))))
         refine gen (fun ρ=>ρ 0 = v∧ρ 3 = o1∧ρ 4=.int .i64 aq∧ρ 5=.int .i64 mz∧ρ 6=.int .i64 (j : Int)∧ρ 7=.int .i64 (f : Int)∧ρ 8=.int .i64 (i : Int)∧True) ⟨z0,z3,z4,z5,z6,z7,z8,trivial⟩ ?_
         rintro ρ ⟨z0, z3, z4, z5, z6, z7, z8, -⟩
         refine rg (r (mv z8) (r (ad (a := (i : Int)) (b := 1) ((i : Int) + 1) E E (by omega)) (r (sa E) (re ?_))))
         exact ag (i + 1) ⟨z0,z3,z4,z5,z6,z7,E,H4,by omega⟩ (by first | omega | (dsimp only; omega))
      ·refine ex E (sq (rg (r (mv y0) (cl go55 (DrawFreeLids (hx.t (Hold.ch H4)) lv ok) (ac E an) ?_))))
       rintro rtv wd2 ⟨t, nn, o2, rfl, ht, Hd2⟩
       have H5 : Hold w [] wd2 [rR i64 2 o1 cs, rR kE 70 o2 t] := Hold.news H4 Hd2
       clear H4
       clear Hd2
       refine r (mv E) (r (xt E E) (r (xt E E) (r (sa E) (r (sa E) (re (sq ?_))))))
       refine gen (fun ρ=>ρ 9 = o2∧ρ 10=.int .i64 nn∧True) ⟨E,E,trivial⟩ ?_
       rintro ρ ⟨z9, z10, -⟩
       obtain ⟨_, R12⟩ : ∃ F, Kd.R kE wd2 F o2 t := Hold.row H5 1 rfl
       refine rg (r (mv z9) (r (mv z10) (cl go47 (impl_FreeLids R12 (by omega)) (ac E (ac E an)) ?_)))
       rintro rfl_ wfl ⟨efl, Hfl⟩
       have H6 : Hold w [] wfl [rR i64 2 o1 cs, rR kE 70 o2 t, rR i64 efl rfl_ (flD t nn)] := Hold.news H5 Hfl
       clear H5
       clear Hfl
       refine r (sa E) (re (sq (rg (r (sa E) (re (sq (sq (rg (r (sa E) (re (bl ?_)))))))))))
       refine lp (α := Nat) (fun i ρ w' => ρ 9 = o2∧ρ 10=.int .i64 nn∧ρ 11 = rfl_∧ρ 12=.int .i64 ((freeN t i).length : Int)∧ρ 13=.int .i64 (i : Int)∧Hold w [] w' [rR i64 2 o1 cs,rR kE 70 o2 t,rR i64 efl rfl_ (flD t nn)]∧i ≤ t.length) (fun i => t.length - i) 0 ?_ ?_
       ·exact ⟨z9,z10,E,E,E,H6,by omega⟩
       clear H6
       rintro i ρ w507 ⟨y9, y10, y11, y12, y13, H7, hi2⟩
       obtain ⟨_, R13⟩ : ∃ F, Kd.R kE w507 F o2 t := Hold.row H7 1 rfl
       refine sq (sq (rg (r (mv y13) (r (mv y9) (r (ln Try.underlying57 E (R13)) (r (bi E E E) (re ?_)))))))
       refine cp E (fun hlt2 => ?_) (fun hlt2 => ?_)
       ·have hi3 : i < t.length := by omega
        have hfl := freeN_len t i
        refine sk (sq (bl (sq (rg (r (mv y9) (r (mv y13) ?_))))))
        obtain ⟨c181_14, ad181_14, k181_14, e181_14, p181_14⟩ := Kd.R.place R13 i (hi3)
        have q181_14 := en_at p181_14
        refine r (ix (j := i) Try.underlying57 ti70 e181_14 E (hi3)) (r (fa' Try.underlying70 E ti2 E E) (r (ld Try.underlying2 E E (q181_14 0 _ E)) (r (bi E E E) (re ?_))))
        refine cp E (fun hz => ?_) (fun hz => ?_)
        ·refine gen (fun ρ=>ρ 9 = o2∧ρ 10=.int .i64 nn∧ρ 11 = rfl_∧ρ 12=.int .i64 ((freeN t i).length : Int)∧ρ 13=.int .i64 (i : Int)∧True) ⟨y9,y10,y11,y12,y13,trivial⟩ ?_
         rintro ρ ⟨z9, z10, z11, z12, z13, -⟩
         refine rg (r (mv z12) (r (ad (a := ((freeN t i).length : Int)) (b := 1) (((freeN t (i + 1)).length : Int)) E E (by rw [freeN_yes hi3 hz]; simp; omega)) (r (sa E) (re (be (rg (r (mv z13) (r (ad (a := (i : Int)) (b := 1) ((i : Int) + 1) E E (by omega)) (r (sa E) (re ?_))))))))))
         exact ag (i + 1) ⟨z9,z10,z11,E,E,H7,by omega⟩ (by first | omega | (dsimp only; omega))
        ·refine sk (be ?_)
         refine gen (fun ρ=>ρ 9 = o2∧ρ 10=.int .i64 nn∧ρ 11 = rfl_∧ρ 12=.int .i64 ((freeN t i).length : Int)∧ρ 13=.int .i64 (i : Int)∧True) ⟨y9,y10,y11,y12,y13,trivial⟩ ?_
         rintro ρ ⟨z9, z10, z11, z12, z13, -⟩
         refine rg (r (mv z13) (r (ad (a := (i : Int)) (b := 1) ((i : Int) + 1) E E (by omega)) (r (sa E) (re ?_))))
         rw [← freeN_no hi3 hz] at z12
         exact ag (i + 1) ⟨z9,z10,z11,z12,E,H7,by omega⟩ (by first | omega | (dsimp only; omega))
       ·obtain rfl : i = t.length := by omega
        refine ex E (sq (sq (rg (r (mv y10) (r (bi E E E) (r (mv E) ?_))))))
        refine sp 189 E (fun hn1 => ?_) (fun hn1 => ?_)
        ·refine gn E E E (gn E E E (gn E E E (r (pk E E) (re (ct E (sq ?_))))))
         refine gen (fun ρ=>ρ 9 = o2∧ρ 10=.int .i64 nn∧ρ 11 = rfl_∧True) ⟨y9,y10,y11,trivial⟩ ?_
         rintro ρ ⟨z9, z10, z11, -⟩
         obtain ⟨_, R14⟩ : ∃ F, Kd.R i64 w507 F rfl_ (flD t nn) := Hold.row H7 2 rfl
         refine rg (r (mv z11) (r (ln Try.underlying22 E (R14)) (r (bi E E E) (r (sa E) (re (rt ?_))))))
         exact fin1 (v := .bool (decide (((flD t nn).length : Int) = 0))) Try.results10 E ⟨congrArg Value.bool (by rw [flD_nil (.inl hn1)]; simp),Hold.ch H7⟩
        ·refine gy E E E (r (mv y10) (gy E E E (r (mv y12) (gy E E E (r (bi E E E) (r (pk E E) (re ?_)))))))
         refine cp E (fun hn2 => ?_) (fun hn2 => ?_)
         ·refine sq ?_
          refine gen (fun ρ=>ρ 9 = o2∧ρ 10=.int .i64 nn∧ρ 11 = rfl_∧True) ⟨y9,y10,y11,trivial⟩ ?_
          rintro ρ ⟨z9, z10, z11, -⟩
          obtain ⟨_, R14⟩ : ∃ F, Kd.R i64 w507 F rfl_ (flD t nn) := Hold.row H7 2 rfl
          refine rg (r (mv z11) (r (ln Try.underlying22 E (R14)) (r (bi E E E) (r (sa E) (re (rt ?_))))))
          exact fin1 (v := .bool (decide (((flD t nn).length : Int) = 0))) Try.results10 E ⟨congrArg Value.bool (by rw [flD_nil (.inr (by omega))]; simp),Hold.ch H7⟩
         ·obtain ⟨hF1, hF2⟩ := flD_full (t := t) (n := nn) (by omega) (by omega)
          refine sk (sq (sq ?_))
          refine gen (fun ρ=>ρ 9 = o2∧ρ 10=.int .i64 nn∧ρ 11 = rfl_∧True) ⟨y9,y10,y11,trivial⟩ ?_
          rintro ρ ⟨z9, z10, z11, -⟩
          obtain ⟨_, R14⟩ : ∃ F, Kd.R i64 w507 F rfl_ (flD t nn) := Hold.row H7 2 rfl
          refine rg (r (mv z11) (r (ln Try.underlying22 E (R14)) (r (mv z10) (r (bi E E E) (re ?_)))))
          refine cf ((E : _ = Value.bool (!decide (((flD t nn).length : Int) = nn))).trans (congrArg Value.bool (show (!decide (((flD t nn).length : Int) = nn)) = false from (by rw [decide_eq_true hF1]; rfl)))) ?_
          refine sk (sq (rg (r (sa E) (re (sq (sq (rg (r (sa E) (re (bl ?_))))))))))
          refine lp (α := Nat) (fun i ρ w' => ρ 9 = o2∧ρ 10=.int .i64 nn∧ρ 11 = rfl_∧ρ 14=.int .i64 ((freeN t i).length : Int)∧ρ 15=.int .i64 (i : Int)∧Hold w [] w' [rR i64 2 o1 cs,rR kE 70 o2 t,rR i64 efl rfl_ (flD t nn)]∧i ≤ t.length) (fun i => t.length - i) 0 ?_ ?_
          ·exact ⟨z9,z10,z11,E,E,H7,by omega⟩
          clear H7
          rintro i ρ w508 ⟨y9, y10, y11, y14, y15, H8, hi2⟩
          obtain ⟨_, R15⟩ : ∃ F, Kd.R kE w508 F o2 t := Hold.row H8 1 rfl
          refine sq (sq (rg (r (mv y15) (r (mv y9) (r (ln Try.underlying57 E (R15)) (r (bi E E E) (r (mv E) ?_)))))))
          refine sp 205 E (fun hm1 => ?_) (fun hm1 => ?_)
          ·refine gy E E E (r (mv y14) (gy E E E (r (mv y10) (gy E E E (r (bi E E E) (r (pk E E) (re ?_)))))))
           refine cp E (fun hm2 => ?_) (fun hm2 => ?_)
           ·have hi3 : i < t.length := by omega
            have hfl := freeN_len t i
            refine sk (sq (bl (sq (rg (r (mv y9) (r (mv y15) ?_))))))
            obtain ⟨c214_16, ad214_16, k214_16, e214_16, p214_16⟩ := Kd.R.place R15 i (hi3)
            have q214_16 := en_at p214_16
            refine r (ix (j := i) Try.underlying57 ti70 e214_16 E (hi3)) (r (fa' Try.underlying70 E ti2 E E) (r (ld Try.underlying2 E E (q214_16 0 _ E)) (r (bi E E E) (re ?_))))
            refine cp E (fun hz => ?_) (fun hz => ?_)
            ·have hkl : (freeN t i).length < (flD t nn).length := by omega
             have hAt : (flD t nn)[(freeN t i).length] = (i : Int) + 1 := by
              have h9 := (hF2 _ hm2).trans (freeN_at hi3 hz)
              rw [List.getElem?_eq_getElem hkl] at h9; exact Option.some.inj h9
             obtain ⟨kk, hkk⟩ : ∃ k, k = (freeN t i).length := ⟨_, rfl⟩
             refine sq (sq ?_)
             refine gen (fun ρ=>ρ 9 = o2∧ρ 10=.int .i64 nn∧ρ 11 = rfl_∧ρ 14=.int .i64 ((freeN t i).length : Int)∧ρ 15=.int .i64 (i : Int)∧True) ⟨y9,y10,y11,y14,y15,trivial⟩ ?_
             rintro ρ ⟨z9, z10, z11, z14, z15, -⟩
             obtain ⟨_, R17⟩ : ∃ F, Kd.R i64 w508 F rfl_ (flD t nn) := Hold.row H8 2 rfl
             refine rg (r (mv z11) (r (mv z14) ?_))
             obtain ⟨c220_18, ad220_18, k220_18, e220_18, p220_18⟩ := Kd.R.place R17 ((freeN t i).length) (hkl)
             refine r (ix (j := (freeN t i).length) Try.underlying22 ti2 e220_18 E (hkl)) (r (ld Try.underlying2 E E p220_18.cell) (r (mv z15) (r (ad (a := (i : Int)) (b := 1) ((i : Int) + 1) E E (by omega)) (r (bi E E E) (re ?_)))))
             refine cf ((E : _ = Value.bool (!decide (((flD t nn)[(freeN t i).length]) = ((i : Int) + 1)))).trans (congrArg Value.bool (show (!decide (((flD t nn)[(freeN t i).length]) = ((i : Int) + 1))) = false from (by rw [decide_eq_true hAt]; rfl)))) ?_
             refine sk (rg (r (mv z14) (r (ad (a := ((freeN t i).length : Int)) (b := 1) (((freeN t (i + 1)).length : Int)) E E (by rw [freeN_yes hi3 hz]; simp; omega)) (r (sa E) (re (be ?_))))))
             refine gen (fun ρ=>ρ 9 = o2∧ρ 10=.int .i64 nn∧ρ 11 = rfl_∧ρ 14=.int .i64 ((freeN t (i + 1)).length : Int)∧ρ 15=.int .i64 (i : Int)∧True) ⟨z9,z10,z11,E,z15,trivial⟩ ?_
             rintro ρ ⟨z9, z10, z11, z14, z15, -⟩
             refine rg (r (mv z15) (r (ad (a := (i : Int)) (b := 1) ((i : Int) + 1) E E (by omega)) (r (sa E) (re ?_))))
             exact ag (i + 1) ⟨z9,z10,z11,z14,E,H8,by omega⟩ (by first | omega | (dsimp only; omega))
            ·refine sk (be ?_)
             refine gen (fun ρ=>ρ 9 = o2∧ρ 10=.int .i64 nn∧ρ 11 = rfl_∧ρ 14=.int .i64 ((freeN t i).length : Int)∧ρ 15=.int .i64 (i : Int)∧True) ⟨y9,y10,y11,y14,y15,trivial⟩ ?_
             rintro ρ ⟨z9, z10, z11, z14, z15, -⟩
             refine rg (r (mv z15) (r (ad (a := (i : Int)) (b := 1) ((i : Int) + 1) E E (by omega)) (r (sa E) (re ?_))))
             rw [← freeN_no hi3 hz] at z14
             exact ag (i + 1) ⟨z9,z10,z11,z14,E,H8,by omega⟩ (by first | omega | (dsimp only; omega))
           ·refine ex E (sq (rg (r (sa E) (re (rt ?_)))))
            exact fin1 (v := .bool true) Try.results10 E ⟨E,Hold.ch H8⟩
          ·refine gn E E E (gn E E E (gn E E E (r (pk E E) (re (cf E (ex E (sq (rg (r (sa E) (re (rt ?_)))))))))))
           exact fin1 (v := .bool true) Try.results10 E ⟨E,Hold.ch H8⟩
    ·refine gn E E E (gn E E E (gn E E E (gn E E E (gu E E E (gu E E E (gu E E E (gu E E E (gu E E E (gn E E E (gn E E E (gu E E E (gu E E E (gu E E E (gu E E E (gu E E E (gu E E E (gn E E E (r (pk E E) (r (mv E) (gy E E E (r (mv z7) (gy E E E (r (bi E E E) (gy E E E (r (mv E) ?_)))))))))))))))))))))))))
     refine sp 75 E (fun k104 => ?_) (fun k104 => ?_)
     ·refine gy E E E (r (mv z7) (gy E E E (r (mv z4) (gy E E E (r (bi E E E) (gy E E E (r (mv E) ?_)))))))
      refine spf 79 E (show (decide ((f : Int) = aq)) = false from (decide_eq_false (by omega))) ?_
      refine gy E E E (r (mv z3) (gy E E E (r (mv z7) (gy E E E ?_))))
      obtain ⟨c82_7, ad82_7, k82_7, e82_7, p82_7⟩ := Kd.R.place R6 f (hf)
      refine r (ix (j := f) Try.underlying22 ti2 e82_7 E (hf)) (gy E E E (r (ld Try.underlying2 E E p82_7.cell) (gy E E E (r (bi E E E) (gy E E E (r (pk E E) (gy E E E (r (pk E E) (r (pk E E) (re ?_))))))))))
      refine cf ((E : _ = Value.bool (!decide ((cs[f]) = 0))).trans (congrArg Value.bool (show (!decide ((cs[f]) = 0)) = false from (by rw [decide_eq_true (by omega)]; rfl)))) ?_
      refine sk (sq (sq ?_))
      refine gen (fun ρ=>ρ 0 = v∧ρ 2=.bool false∧ρ 3 = o1∧ρ 4=.int .i64 aq∧ρ 5=.int .i64 mz∧ρ 6=.int .i64 (j : Int)∧ρ 7=.int .i64 (f : Int)∧True) ⟨z0,z2,z3,z4,z5,z6,z7,trivial⟩ ?_
      rintro ρ ⟨z0, z2, z3, z4, z5, z6, z7, -⟩
      refine rg (r (sa E) (re (bl ?_)))
      refine lp (α := Nat) (fun i ρ w' => ρ 0 = v∧ρ 3 = o1∧ρ 4=.int .i64 aq∧ρ 5=.int .i64 mz∧ρ 6=.int .i64 (j : Int)∧ρ 7=.int .i64 (f : Int)∧ρ 8=.int .i64 (i : Int)∧Hold w [] w' [rR i64 2 o1 cs]∧i ≤ cs.length) (fun i => cs.length - i) 0 ?_ ?_
      ·exact ⟨z0,z3,z4,z5,z6,z7,E,H3,by omega⟩
      clear H3
      rintro i ρ w504 ⟨y0, y3, y4, y5, y6, y7, y8, H4, hi⟩
      obtain ⟨_, R8⟩ : ∃ F, Kd.R i64 w504 F o1 cs := Hold.row H4 0 rfl
      refine sq (sq (rg (r (mv y8) (r (mv y3) (r (ln Try.underlying22 E (R8)) (r (bi E E E) (re ?_)))))))
      refine cp E (fun hlt => ?_) (fun hlt => ?_)
      ·have hi' : i < cs.length := by omega
       have hvi := hjm i hi'
       simp only [inside_iff] at hvi
       have hwi := hfm i hi'
       simp only [decide_eq_true_eq] at hwi
       refine sk (sq (bl (sq (sq (rg (r (mv y8) (r (mv y4) (r (bi E E E) (r (mv E) ?_)))))))))
       refine spn 97 E (fun k105 => ?_) (fun k105 => ?_)
       ·refine gy E E E (r (mv y3) (gy E E E (r (mv y8) (gy E E E ?_))))
        obtain ⟨c100_9, ad100_9, k100_9, e100_9, p100_9⟩ := Kd.R.place R8 i (hi')
        refine r (ix (j := i) Try.underlying22 ti2 e100_9 E (hi')) (gy E E E (r (ld Try.underlying2 E E p100_9.cell) (gy E E E (r (bi E E E) (r (pk E E) (r (mv E) ?_))))))
        refine sp 104 E (fun k106 => ?_) (fun k106 => ?_)
        ·refine gy E E E (r (mv y3) (gy E E E (r (mv y8) (gy E E E ?_))))
         obtain ⟨c107_10, ad107_10, k107_10, e107_10, p107_10⟩ := Kd.R.place R8 i (hi')
         refine r (ix (j := i) Try.underlying22 ti2 e107_10 E (hi')) (gy E E E (r (ld Try.underlying2 E E p107_10.cell) (gy E E E (r (mv y5) (gy E E E (r (bi E E E) (r (pk E E) (r (mv E) ?_))))))))
         refine sp 112 E (fun k107 => ?_) (fun k107 => ?_)
         ·refine gy E E E (r (mv y8) (gy E E E (r (mv y6) (gy E E E (r (bi E E E) (r (pk E E) (re ?_)))))))
          refine cpn E (fun k108 => ?_) (fun k108 => ?_)
          ·refine sq ?_
           refine gen (fun ρ=>ρ 0 = v∧ρ 3 = o1∧ρ 4=.int .i64 aq∧ρ 5=.int .i64 mz∧ρ 6=.int .i64 (j : Int)∧ρ 7=.int .i64 (f : Int)∧ρ 8=.int .i64 (i : Int)∧True) ⟨y0,y3,y4,y5,y6,y7,y8,trivial⟩ ?_
           rintro ρ ⟨z0, z3, z4, z5, z6, z7, z8, -⟩
           refine rd mixed (by kernel_rfl) (q (mv z6) (q (bi E E E) (q (mv E) ?_)))
           refine spfq 119 E (show (decide ((j : Int) < 0)) = false from (decide_eq_false (by omega))) ?_
           refine gyq E E E (q (mv z3) (gyq E E E (q (mv z8) (gyq E E E ?_))))
           obtain ⟨c122_11, ad122_11, k122_11, e122_11, p122_11⟩ := Kd.R.place R8 i (hi')
           refine q (ix (j := i) Try.underlying22 ti2 e122_11 E (hi')) (gyq E E E (q (ld Try.underlying2 E E p122_11.cell) (gyq E E E (q (mv z3) (gyq E E E (q (mv z6) (gyq E E E ?_)))))))
           obtain ⟨c126_12, ad126_12, k126_12, e126_12, p126_12⟩ := Kd.R.place R8 j (hj)
           refine q (ix (j := j) Try.underlying22 ti2 e126_12 E (hj)) (gyq E E E (q (ld Try.underlying2 E E p126_12.cell) (gyq E E E (q (bi E E E) (q (pk E E) (q (mv E) ?_))))))
           refine spfq 130 E (show (decide ((cs[i]) < (cs[j]))) = false from (decide_eq_false (by omega))) ?_
           refine gyq E E E (q (mv z3) (gyq E E E (q (mv z8) (gyq E E E ?_))))
           obtain ⟨c133_13, ad133_13, k133_13, e133_13, p133_13⟩ := Kd.R.place R8 i (hi')
           refine q (ix (j := i) Try.underlying22 ti2 e133_13 E (hi')) (gyq E E E (q (ld Try.underlying2 E E p133_13.cell) (gyq E E E (q (mv z3) (gyq E E E (q (mv z6) (gyq E E E ?_)))))))
           obtain ⟨c137_14, ad137_14, k137_14, e137_14, p137_14⟩ := Kd.R.place R8 j (hj)
           refine q (ix (j := j) Try.underlying22 ti2 e137_14 E (hj)) (gyq E E E (q (ld Try.underlying2 E E p137_14.cell) (gyq E E E (q (bi E E E) (gyq E E E (q (mv E) ?_))))))
           refine spq 140 E (fun k109 => ?_) (fun k109 => ?_)
           ·refine gyq E E E (q (mv z8) (gyq E E E (q (mv z6) (gyq E E E (q (bi E E E) (gyq E E E (q (pk E E) (q (pk E E) (me ?_)))))))))
            intro w1 c1
            have H5 : Hold w [] w1 [rR i64 2 o1 cs] := Hold.t H4 c1
            clear H4
            refine cf ((E : _ = Value.bool (decide ((i : Int) < (j : Int)))).trans (congrArg Value.bool (show (decide ((i : Int) < (j : Int))) = false from (decide_eq_false (by omega))))) ?_
            refine sk (sq ?_)
            refine gen (fun ρ=>ρ 0 = v∧ρ 3 = o1∧ρ 4=.int .i64 aq∧ρ 5=.int .i64 mz∧ρ 6=.int .i64 (j : Int)∧ρ 7=.int .i64 (f : Int)∧ρ 8=.int .i64 (i : Int)∧True) ⟨z0,z3,z4,z5,z6,z7,z8,trivial⟩ ?_
            rintro ρ ⟨z0, z3, z4, z5, z6, z7, z8, -⟩
            refine rg (r (mv z8) (r (mv z4) (r (bi E E E) (r (mv E) ?_))))
            refine spn 149 E (fun k110 => ?_) (fun k110 => ?_)
            ·obtain ⟨_, R15⟩ : ∃ F, Kd.R i64 w1 F o1 cs := Hold.row H5 0 rfl
             refine gy E E E (r (mv z3) (gy E E E (r (mv z8) (gy E E E ?_))))
             obtain ⟨c152_16, ad152_16, k152_16, e152_16, p152_16⟩ := Kd.R.place R15 i (hi')
             refine r (ix (j := i) Try.underlying22 ti2 e152_16 E (hi')) (gy E E E (r (ld Try.underlying2 E E p152_16.cell) (gy E E E (r (bi E E E) (r (pk E E) (r (mv E) ?_))))))
             refine sp 156 E (fun k111 => ?_) (fun k111 => ?_)
             ·refine gy E E E (r (mv z7) (gy E E E (r (bi E E E) (gy E E E (r (mv E) ?_)))))
              refine spf 159 E (show (decide ((f : Int) < 0)) = false from (decide_eq_false (by omega))) ?_
              refine gy E E E (r (mv z8) (gy E E E (r (mv z7) (gy E E E (r (bi E E E) (gy E E E (r (pk E E) (r (pk E E) (re ?_)))))))))
              refine cf ((E : _ = Value.bool (decide ((i : Int) < (f : Int)))).trans (congrArg Value.bool (show (decide ((i : Int) < (f : Int))) = false from (decide_eq_false (by omega))))) ?_
              refine sk (be ?_)
              refine gen (fun ρ=>ρ 0 = v∧ρ 3 = o1∧ρ 4=.int .i64 aq∧ρ 5=.int .i64 mz∧ρ 6=.int .i64 (j : Int)∧ρ 7=.int .i64 (f : Int)∧ρ 8=.int .i64 (i : Int)∧True) ⟨z0,z3,z4,z5,z6,z7,z8,trivial⟩ ?_
              rintro ρ ⟨z0, z3, z4, z5, z6, z7, z8, -⟩
              refine rg (r (mv z8) (r (ad (a := (i : Int)) (b := 1) ((i : Int) + 1) E E (by omega)) (r (sa E) (re ?_))))
              exact ag (i + 1) ⟨z0,z3,z4,z5,z6,z7,E,H5,by omega⟩ (by first | omega | (dsimp only; omega))
             ·refine gn E E E (gn E E E (gn E E E (gu E E E (gu E E E (gu E E E (gn E E E (r (pk E E) (re (cf E (sk (be ?_)))))))))))
              refine gen (fun ρ=>ρ 0 = v∧ρ 3 = o1∧ρ 4=.int .i64 aq∧ρ 5=.int .i64 mz∧ρ 6=.int .i64 (j : Int)∧ρ 7=.int .i64 (f : Int)∧ρ 8=.int .i64 (i : Int)∧True) ⟨z0,z3,z4,z5,z6,z7,z8,trivial⟩ ?_
              rintro ρ ⟨z0, z3, z4, z5, z6, z7, z8, -⟩
              refine rg (r (mv z8) (r (ad (a := (i : Int)) (b := 1) ((i : Int) + 1) E E (by omega)) (r (sa E) (re ?_))))
              exact ag (i + 1) ⟨z0,z3,z4,z5,z6,z7,E,H5,by omega⟩ (by first | omega | (dsimp only; omega))
            ·refine gn E E E (gn E E E (gn E E E (gn E E E (gn E E E (r (pk E E) (r (mv E) (gn E E E (gn E E E (gn E E E (gu E E E (gu E E E (gu E E E (gn E E E (r (pk E E) (re (cf E (sk (be ?_))))))))))))))))))
             refine gen (fun ρ=>ρ 0 = v∧ρ 3 = o1∧ρ 4=.int .i64 aq∧ρ 5=.int .i64 mz∧ρ 6=.int .i64 (j : Int)∧ρ 7=.int .i64 (f : Int)∧ρ 8=.int .i64 (i : Int)∧True) ⟨z0,z3,z4,z5,z6,z7,z8,trivial⟩ ?_
             rintro ρ ⟨z0, z3, z4, z5, z6, z7, z8, -⟩
             refine rg (r (mv z8) (r (ad (a := (i : Int)) (b := 1) ((i : Int) + 1) E E (by omega)) (r (sa E) (re ?_))))
             exact ag (i + 1) ⟨z0,z3,z4,z5,z6,z7,E,H5,by omega⟩ (by first | omega | (dsimp only; omega))
           ·refine gnq E E E (gnq E E E (gnq E E E (gyq E E E (q (pk E E) (q (pk E E) (me ?_))))))
            intro w1 c1
            have H5 : Hold w [] w1 [rR i64 2 o1 cs] := Hold.t H4 c1
            clear H4
            refine cf E (sk (sq ?_))
            refine gen (fun ρ=>ρ 0 = v∧ρ 3 = o1∧ρ 4=.int .i64 aq∧ρ 5=.int .i64 mz∧ρ 6=.int .i64 (j : Int)∧ρ 7=.int .i64 (f : Int)∧ρ 8=.int .i64 (i : Int)∧True) ⟨z0,z3,z4,z5,z6,z7,z8,trivial⟩ ?_
            rintro ρ ⟨z0, z3, z4, z5, z6, z7, z8, -⟩
            refine rg (r (mv z8) (r (mv z4) (r (bi E E E) (r (mv E) ?_))))
            refine spn 149 E (fun k112 => ?_) (fun k112 => ?_)
            ·obtain ⟨_, R15⟩ : ∃ F, Kd.R i64 w1 F o1 cs := Hold.row H5 0 rfl
             refine gy E E E (r (mv z3) (gy E E E (r (mv z8) (gy E E E ?_))))
             obtain ⟨c152_16, ad152_16, k152_16, e152_16, p152_16⟩ := Kd.R.place R15 i (hi')
             refine r (ix (j := i) Try.underlying22 ti2 e152_16 E (hi')) (gy E E E (r (ld Try.underlying2 E E p152_16.cell) (gy E E E (r (bi E E E) (r (pk E E) (r (mv E) ?_))))))
             refine sp 156 E (fun k113 => ?_) (fun k113 => ?_)
             ·refine gy E E E (r (mv z7) (gy E E E (r (bi E E E) (gy E E E (r (mv E) ?_)))))
              refine spf 159 E (show (decide ((f : Int) < 0)) = false from (decide_eq_false (by omega))) ?_
              refine gy E E E (r (mv z8) (gy E E E (r (mv z7) (gy E E E (r (bi E E E) (gy E E E (r (pk E E) (r (pk E E) (re ?_)))))))))
              refine cf ((E : _ = Value.bool (decide ((i : Int) < (f : Int)))).trans (congrArg Value.bool (show (decide ((i : Int) < (f : Int))) = false from (decide_eq_false (by omega))))) ?_
              refine sk (be ?_)
              refine gen (fun ρ=>ρ 0 = v∧ρ 3 = o1∧ρ 4=.int .i64 aq∧ρ 5=.int .i64 mz∧ρ 6=.int .i64 (j : Int)∧ρ 7=.int .i64 (f : Int)∧ρ 8=.int .i64 (i : Int)∧True) ⟨z0,z3,z4,z5,z6,z7,z8,trivial⟩ ?_
              rintro ρ ⟨z0, z3, z4, z5, z6, z7, z8, -⟩
              refine rg (r (mv z8) (r (ad (a := (i : Int)) (b := 1) ((i : Int) + 1) E E (by omega)) (r (sa E) (re ?_))))
              exact ag (i + 1) ⟨z0,z3,z4,z5,z6,z7,E,H5,by omega⟩ (by first | omega | (dsimp only; omega))
             ·refine gn E E E (gn E E E (gn E E E (gu E E E (gu E E E (gu E E E (gn E E E (r (pk E E) (re (cf E (sk (be ?_)))))))))))
              refine gen (fun ρ=>ρ 0 = v∧ρ 3 = o1∧ρ 4=.int .i64 aq∧ρ 5=.int .i64 mz∧ρ 6=.int .i64 (j : Int)∧ρ 7=.int .i64 (f : Int)∧ρ 8=.int .i64 (i : Int)∧True) ⟨z0,z3,z4,z5,z6,z7,z8,trivial⟩ ?_
              rintro ρ ⟨z0, z3, z4, z5, z6, z7, z8, -⟩
              refine rg (r (mv z8) (r (ad (a := (i : Int)) (b := 1) ((i : Int) + 1) E E (by omega)) (r (sa E) (re ?_))))
              exact ag (i + 1) ⟨z0,z3,z4,z5,z6,z7,E,H5,by omega⟩ (by first | omega | (dsimp only; omega))
            ·refine gn E E E (gn E E E (gn E E E (gn E E E (gn E E E (r (pk E E) (r (mv E) (gn E E E (gn E E E (gn E E E (gu E E E (gu E E E (gu E E E (gn E E E (r (pk E E) (re (cf E (sk (be ?_))))))))))))))))))
             refine gen (fun ρ=>ρ 0 = v∧ρ 3 = o1∧ρ 4=.int .i64 aq∧ρ 5=.int .i64 mz∧ρ 6=.int .i64 (j : Int)∧ρ 7=.int .i64 (f : Int)∧ρ 8=.int .i64 (i : Int)∧True) ⟨z0,z3,z4,z5,z6,z7,z8,trivial⟩ ?_
             rintro ρ ⟨z0, z3, z4, z5, z6, z7, z8, -⟩
             refine rg (r (mv z8) (r (ad (a := (i : Int)) (b := 1) ((i : Int) + 1) E E (by omega)) (r (sa E) (re ?_))))
             exact ag (i + 1) ⟨z0,z3,z4,z5,z6,z7,E,H5,by omega⟩ (by first | omega | (dsimp only; omega))
          ·refine sk (sq ?_)
           refine gen (fun ρ=>ρ 0 = v∧ρ 3 = o1∧ρ 4=.int .i64 aq∧ρ 5=.int .i64 mz∧ρ 6=.int .i64 (j : Int)∧ρ 7=.int .i64 (f : Int)∧ρ 8=.int .i64 (i : Int)∧True) ⟨y0,y3,y4,y5,y6,y7,y8,trivial⟩ ?_
           rintro ρ ⟨z0, z3, z4, z5, z6, z7, z8, -⟩
           refine rg (r (mv z8) (r (mv z4) (r (bi E E E) (r (mv E) ?_))))
           refine spn 149 E (fun k114 => ?_) (fun k114 => ?_)
           ·refine gy E E E (r (mv z3) (gy E E E (r (mv z8) (gy E E E ?_))))
            obtain ⟨c152_11, ad152_11, k152_11, e152_11, p152_11⟩ := Kd.R.place R8 i (hi')
            refine r (ix (j := i) Try.underlying22 ti2 e152_11 E (hi')) (gy E E E (r (ld Try.underlying2 E E p152_11.cell) (gy E E E (r (bi E E E) (r (pk E E) (r (mv E) ?_))))))
            refine sp 156 E (fun k115 => ?_) (fun k115 => ?_)
            ·refine gy E E E (r (mv z7) (gy E E E (r (bi E E E) (gy E E E (r (mv E) ?_)))))
             refine spf 159 E (show (decide ((f : Int) < 0)) = false from (decide_eq_false (by omega))) ?_
             refine gy E E E (r (mv z8) (gy E E E (r (mv z7) (gy E E E (r (bi E E E) (gy E E E (r (pk E E) (r (pk E E) (re ?_)))))))))
             refine cf ((E : _ = Value.bool (decide ((i : Int) < (f : Int)))).trans (congrArg Value.bool (show (decide ((i : Int) < (f : Int))) = false from (decide_eq_false (by omega))))) ?_
             refine sk (be ?_)
             refine gen (fun ρ=>ρ 0 = v∧ρ 3 = o1∧ρ 4=.int .i64 aq∧ρ 5=.int .i64 mz∧ρ 6=.int .i64 (j : Int)∧ρ 7=.int .i64 (f : Int)∧ρ 8=.int .i64 (i : Int)∧True) ⟨z0,z3,z4,z5,z6,z7,z8,trivial⟩ ?_
             rintro ρ ⟨z0, z3, z4, z5, z6, z7, z8, -⟩
             refine rg (r (mv z8) (r (ad (a := (i : Int)) (b := 1) ((i : Int) + 1) E E (by omega)) (r (sa E) (re ?_))))
             exact ag (i + 1) ⟨z0,z3,z4,z5,z6,z7,E,H4,by omega⟩ (by first | omega | (dsimp only; omega))
            ·refine gn E E E (gn E E E (gn E E E (gu E E E (gu E E E (gu E E E (gn E E E (r (pk E E) (re (cf E (sk (be ?_)))))))))))
             refine gen (fun ρ=>ρ 0 = v∧ρ 3 = o1∧ρ 4=.int .i64 aq∧ρ 5=.int .i64 mz∧ρ 6=.int .i64 (j : Int)∧ρ 7=.int .i64 (f : Int)∧ρ 8=.int .i64 (i : Int)∧True) ⟨z0,z3,z4,z5,z6,z7,z8,trivial⟩ ?_
             rintro ρ ⟨z0, z3, z4, z5, z6, z7, z8, -⟩
             refine rg (r (mv z8) (r (ad (a := (i : Int)) (b := 1) ((i : Int) + 1) E E (by omega)) (r (sa E) (re ?_))))
             exact ag (i + 1) ⟨z0,z3,z4,z5,z6,z7,E,H4,by omega⟩ (by first | omega | (dsimp only; omega))
           ·refine gn E E E (gn E E E (gn E E E (gn E E E (gn E E E (r (pk E E) (r (mv E) (gn E E E (gn E E E (gn E E E (gu E E E (gu E E E (gu E E E (gn E E E (r (pk E E) (re (cf E (sk (be ?_))))))))))))))))))
            refine gen (fun ρ=>ρ 0 = v∧ρ 3 = o1∧ρ 4=.int .i64 aq∧ρ 5=.int .i64 mz∧ρ 6=.int .i64 (j : Int)∧ρ 7=.int .i64 (f : Int)∧ρ 8=.int .i64 (i : Int)∧True) ⟨z0,z3,z4,z5,z6,z7,z8,trivial⟩ ?_
            rintro ρ ⟨z0, z3, z4, z5, z6, z7, z8, -⟩
            refine rg (r (mv z8) (r (ad (a := (i : Int)) (b := 1) ((i : Int) + 1) E E (by omega)) (r (sa E) (re ?_))))
            exact ag (i + 1) ⟨z0,z3,z4,z5,z6,z7,E,H4,by omega⟩ (by first | omega | (dsimp only; omega))
         ·refine gn E E E (gn E E E (gn E E E (r (pk E E) (re (cf E (sk (sq ?_)))))))
          refine gen (fun ρ=>ρ 0 = v∧ρ 3 = o1∧ρ 4=.int .i64 aq∧ρ 5=.int .i64 mz∧ρ 6=.int .i64 (j : Int)∧ρ 7=.int .i64 (f : Int)∧ρ 8=.int .i64 (i : Int)∧True) ⟨y0,y3,y4,y5,y6,y7,y8,trivial⟩ ?_
          rintro ρ ⟨z0, z3, z4, z5, z6, z7, z8, -⟩
          refine rg (r (mv z8) (r (mv z4) (r (bi E E E) (r (mv E) ?_))))
          refine spn 149 E (fun k116 => ?_) (fun k116 => ?_)
          ·refine gy E E E (r (mv z3) (gy E E E (r (mv z8) (gy E E E ?_))))
           obtain ⟨c152_11, ad152_11, k152_11, e152_11, p152_11⟩ := Kd.R.place R8 i (hi')
           refine r (ix (j := i) Try.underlying22 ti2 e152_11 E (hi')) (gy E E E (r (ld Try.underlying2 E E p152_11.cell) (gy E E E (r (bi E E E) (r (pk E E) (r (mv E) ?_))))))
           refine sp 156 E (fun k117 => ?_) (fun k117 => ?_)
           ·refine gy E E E (r (mv z7) (gy E E E (r (bi E E E) (gy E E E (r (mv E) ?_)))))
            refine spf 159 E (show (decide ((f : Int) < 0)) = false from (decide_eq_false (by omega))) ?_
            refine gy E E E (r (mv z8) (gy E E E (r (mv z7) (gy E E E (r (bi E E E) (gy E E E (r (pk E E) (r (pk E E) (re ?_)))))))))
            refine cf ((E : _ = Value.bool (decide ((i : Int) < (f : Int)))).trans (congrArg Value.bool (show (decide ((i : Int) < (f : Int))) = false from (decide_eq_false (by omega))))) ?_
            refine sk (be ?_)
            refine gen (fun ρ=>ρ 0 = v∧ρ 3 = o1∧ρ 4=.int .i64 aq∧ρ 5=.int .i64 mz∧ρ 6=.int .i64 (j : Int)∧ρ 7=.int .i64 (f : Int)∧ρ 8=.int .i64 (i : Int)∧True) ⟨z0,z3,z4,z5,z6,z7,z8,trivial⟩ ?_
            rintro ρ ⟨z0, z3, z4, z5, z6, z7, z8, -⟩
            refine rg (r (mv z8) (r (ad (a := (i : Int)) (b := 1) ((i : Int) + 1) E E (by omega)) (r (sa E) (re ?_))))
            exact ag (i + 1) ⟨z0,z3,z4,z5,z6,z7,E,H4,by omega⟩ (by first | omega | (dsimp only; omega))
           ·refine gn E E E (gn E E E (gn E E E (gu E E E (gu E E E (gu E E E (gn E E E (r (pk E E) (re (cf E (sk (be ?_)))))))))))
            refine gen (fun ρ=>ρ 0 = v∧ρ 3 = o1∧ρ 4=.int .i64 aq∧ρ 5=.int .i64 mz∧ρ 6=.int .i64 (j : Int)∧ρ 7=.int .i64 (f : Int)∧ρ 8=.int .i64 (i : Int)∧True) ⟨z0,z3,z4,z5,z6,z7,z8,trivial⟩ ?_
            rintro ρ ⟨z0, z3, z4, z5, z6, z7, z8, -⟩
            refine rg (r (mv z8) (r (ad (a := (i : Int)) (b := 1) ((i : Int) + 1) E E (by omega)) (r (sa E) (re ?_))))
            exact ag (i + 1) ⟨z0,z3,z4,z5,z6,z7,E,H4,by omega⟩ (by first | omega | (dsimp only; omega))
          ·refine gn E E E (gn E E E (gn E E E (gn E E E (gn E E E (r (pk E E) (r (mv E) (gn E E E (gn E E E (gn E E E (gu E E E (gu E E E (gu E E E (gn E E E (r (pk E E) (re (cf E (sk (be ?_))))))))))))))))))
           refine gen (fun ρ=>ρ 0 = v∧ρ 3 = o1∧ρ 4=.int .i64 aq∧ρ 5=.int .i64 mz∧ρ 6=.int .i64 (j : Int)∧ρ 7=.int .i64 (f : Int)∧ρ 8=.int .i64 (i : Int)∧True) ⟨z0,z3,z4,z5,z6,z7,z8,trivial⟩ ?_
           rintro ρ ⟨z0, z3, z4, z5, z6, z7, z8, -⟩
           refine rg (r (mv z8) (r (ad (a := (i : Int)) (b := 1) ((i : Int) + 1) E E (by omega)) (r (sa E) (re ?_))))
           exact ag (i + 1) ⟨z0,z3,z4,z5,z6,z7,E,H4,by omega⟩ (by first | omega | (dsimp only; omega))
        ·refine gn E E E (gn E E E (gn E E E (gn E E E (gn E E E (gn E E E (r (pk E E) (r (mv E) (gn E E E (gn E E E (gn E E E (r (pk E E) (re (cf E (sk (sq ?_)))))))))))))))
         refine gen (fun ρ=>ρ 0 = v∧ρ 3 = o1∧ρ 4=.int .i64 aq∧ρ 5=.int .i64 mz∧ρ 6=.int .i64 (j : Int)∧ρ 7=.int .i64 (f : Int)∧ρ 8=.int .i64 (i : Int)∧True) ⟨y0,y3,y4,y5,y6,y7,y8,trivial⟩ ?_
         rintro ρ ⟨z0, z3, z4, z5, z6, z7, z8, -⟩
         refine rg (r (mv z8) (r (mv z4) (r (bi E E E) (r (mv E) ?_))))
         refine spn 149 E (fun k118 => ?_) (fun k118 => ?_)
         ·refine gy E E E (r (mv z3) (gy E E E (r (mv z8) (gy E E E ?_))))
          obtain ⟨c152_10, ad152_10, k152_10, e152_10, p152_10⟩ := Kd.R.place R8 i (hi')
          refine r (ix (j := i) Try.underlying22 ti2 e152_10 E (hi')) (gy E E E (r (ld Try.underlying2 E E p152_10.cell) (gy E E E (r (bi E E E) (r (pk E E) (r (mv E) ?_))))))
          refine sp 156 E (fun k119 => ?_) (fun k119 => ?_)
          ·refine gy E E E (r (mv z7) (gy E E E (r (bi E E E) (gy E E E (r (mv E) ?_)))))
           refine spf 159 E (show (decide ((f : Int) < 0)) = false from (decide_eq_false (by omega))) ?_
           refine gy E E E (r (mv z8) (gy E E E (r (mv z7) (gy E E E (r (bi E E E) (gy E E E (r (pk E E) (r (pk E E) (re ?_)))))))))
           refine cf ((E : _ = Value.bool (decide ((i : Int) < (f : Int)))).trans (congrArg Value.bool (show (decide ((i : Int) < (f : Int))) = false from (decide_eq_false (by omega))))) ?_
           refine sk (be ?_)
           refine gen (fun ρ=>ρ 0 = v∧ρ 3 = o1∧ρ 4=.int .i64 aq∧ρ 5=.int .i64 mz∧ρ 6=.int .i64 (j : Int)∧ρ 7=.int .i64 (f : Int)∧ρ 8=.int .i64 (i : Int)∧True) ⟨z0,z3,z4,z5,z6,z7,z8,trivial⟩ ?_
           rintro ρ ⟨z0, z3, z4, z5, z6, z7, z8, -⟩
           refine rg (r (mv z8) (r (ad (a := (i : Int)) (b := 1) ((i : Int) + 1) E E (by omega)) (r (sa E) (re ?_))))
           exact ag (i + 1) ⟨z0,z3,z4,z5,z6,z7,E,H4,by omega⟩ (by first | omega | (dsimp only; omega))
          ·refine gn E E E (gn E E E (gn E E E (gu E E E (gu E E E (gu E E E (gn E E E (r (pk E E) (re (cf E (sk (be ?_)))))))))))
           refine gen (fun ρ=>ρ 0 = v∧ρ 3 = o1∧ρ 4=.int .i64 aq∧ρ 5=.int .i64 mz∧ρ 6=.int .i64 (j : Int)∧ρ 7=.int .i64 (f : Int)∧ρ 8=.int .i64 (i : Int)∧True) ⟨z0,z3,z4,z5,z6,z7,z8,trivial⟩ ?_
           rintro ρ ⟨z0, z3, z4, z5, z6, z7, z8, -⟩
           refine rg (r (mv z8) (r (ad (a := (i : Int)) (b := 1) ((i : Int) + 1) E E (by omega)) (r (sa E) (re ?_))))
           exact ag (i + 1) ⟨z0,z3,z4,z5,z6,z7,E,H4,by omega⟩ (by first | omega | (dsimp only; omega))
         ·refine gn E E E (gn E E E (gn E E E (gn E E E (gn E E E (r (pk E E) (r (mv E) (gn E E E (gn E E E (gn E E E (gu E E E (gu E E E (gu E E E (gn E E E (r (pk E E) (re (cf E (sk (be ?_))))))))))))))))))
          refine gen (fun ρ=>ρ 0 = v∧ρ 3 = o1∧ρ 4=.int .i64 aq∧ρ 5=.int .i64 mz∧ρ 6=.int .i64 (j : Int)∧ρ 7=.int .i64 (f : Int)∧ρ 8=.int .i64 (i : Int)∧True) ⟨z0,z3,z4,z5,z6,z7,z8,trivial⟩ ?_
          rintro ρ ⟨z0, z3, z4, z5, z6, z7, z8, -⟩
          refine rg (r (mv z8) (r (ad (a := (i : Int)) (b := 1) ((i : Int) + 1) E E (by omega)) (r (sa E) (re ?_))))
          exact ag (i + 1) ⟨z0,z3,z4,z5,z6,z7,E,H4,by omega⟩ (by first | omega | (dsimp only; omega))
       ·refine gn E E E (gn E E E (gn E E E (gn E E E (gn E E E (r (pk E E) (r (mv E) (gn E E E (gn E E E (gn E E E (gn E E E (gn E E E (gn E E E (r (pk E E) (r (mv E) (gn E E E (gn E E E (gn E E E (r (pk E E) (re (cf E (sk (sq ?_))))))))))))))))))))))
        refine gen (fun ρ=>ρ 0 = v∧ρ 3 = o1∧ρ 4=.int .i64 aq∧ρ 5=.int .i64 mz∧ρ 6=.int .i64 (j : Int)∧ρ 7=.int .i64 (f : Int)∧ρ 8=.int .i64 (i : Int)∧True) ⟨y0,y3,y4,y5,y6,y7,y8,trivial⟩ ?_
        rintro ρ ⟨z0, z3, z4, z5, z6, z7, z8, -⟩
        refine rg (r (mv z8) (r (mv z4) (r (bi E E E) (r (mv E) ?_))))
        refine spn 149 E (fun k120 => ?_) (fun k120 => ?_)
        ·refine gy E E E (r (mv z3) (gy E E E (r (mv z8) (gy E E E ?_))))
         obtain ⟨c152_9, ad152_9, k152_9, e152_9, p152_9⟩ := Kd.R.place R8 i (hi')
         refine r (ix (j := i) Try.underlying22 ti2 e152_9 E (hi')) (gy E E E (r (ld Try.underlying2 E E p152_9.cell) (gy E E E (r (bi E E E) (r (pk E E) (r (mv E) ?_))))))
         refine sp 156 E (fun k121 => ?_) (fun k121 => ?_)
         ·refine gy E E E (r (mv z7) (gy E E E (r (bi E E E) (gy E E E (r (mv E) ?_)))))
          refine spf 159 E (show (decide ((f : Int) < 0)) = false from (decide_eq_false (by omega))) ?_
          refine gy E E E (r (mv z8) (gy E E E (r (mv z7) (gy E E E (r (bi E E E) (gy E E E (r (pk E E) (r (pk E E) (re ?_)))))))))
          refine cf ((E : _ = Value.bool (decide ((i : Int) < (f : Int)))).trans (congrArg Value.bool (show (decide ((i : Int) < (f : Int))) = false from (decide_eq_false (by omega))))) ?_
          refine sk (be ?_)
          refine gen (fun ρ=>ρ 0 = v∧ρ 3 = o1∧ρ 4=.int .i64 aq∧ρ 5=.int .i64 mz∧ρ 6=.int .i64 (j : Int)∧ρ 7=.int .i64 (f : Int)∧ρ 8=.int .i64 (i : Int)∧True) ⟨z0,z3,z4,z5,z6,z7,z8,trivial⟩ ?_
          rintro ρ ⟨z0, z3, z4, z5, z6, z7, z8, -⟩
          refine rg (r (mv z8) (r (ad (a := (i : Int)) (b := 1) ((i : Int) + 1) E E (by omega)) (r (sa E) (re ?_))))
          exact ag (i + 1) ⟨z0,z3,z4,z5,z6,z7,E,H4,by omega⟩ (by first | omega | (dsimp only; omega))
         ·refine gn E E E (gn E E E (gn E E E (gu E E E (gu E E E (gu E E E (gn E E E (r (pk E E) (re (cf E (sk (be ?_)))))))))))
          refine gen (fun ρ=>ρ 0 = v∧ρ 3 = o1∧ρ 4=.int .i64 aq∧ρ 5=.int .i64 mz∧ρ 6=.int .i64 (j : Int)∧ρ 7=.int .i64 (f : Int)∧ρ 8=.int .i64 (i : Int)∧True) ⟨z0,z3,z4,z5,z6,z7,z8,trivial⟩ ?_
          rintro ρ ⟨z0, z3, z4, z5, z6, z7, z8, -⟩
          refine rg (r (mv z8) (r (ad (a := (i : Int)) (b := 1) ((i : Int) + 1) E E (by omega)) (r (sa E) (re ?_))))
          exact ag (i + 1) ⟨z0,z3,z4,z5,z6,z7,E,H4,by omega⟩ (by first | omega | (dsimp only; omega))
        ·refine gn E E E (gn E E E (gn E E E (gn E E E (gn E E E (r (pk E E) (r (mv E) (gn E E E (gn E E E (gn E E E (gu E E E (gu E E E (gu E E E (gn E E E (r (pk E E) (re (cf E (sk (be ?_))))))))))))))))))
         refine gen (fun ρ=>ρ 0 = v∧ρ 3 = o1∧ρ 4=.int .i64 aq∧ρ 5=.int .i64 mz∧ρ 6=.int .i64 (j : Int)∧ρ 7=.int .i64 (f : Int)∧ρ 8=.int .i64 (i : Int)∧True) ⟨z0,z3,z4,z5,z6,z7,z8,trivial⟩ ?_
         rintro ρ ⟨z0, z3, z4, z5, z6, z7, z8, -⟩
         refine rg (r (mv z8) (r (ad (a := (i : Int)) (b := 1) ((i : Int) + 1) E E (by omega)) (r (sa E) (re ?_))))
         exact ag (i + 1) ⟨z0,z3,z4,z5,z6,z7,E,H4,by omega⟩ (by first | omega | (dsimp only; omega))
      ·refine ex E (sq (rg (r (mv y0) (cl go55 (DrawFreeLids (hx.t (Hold.ch H4)) lv ok) (ac E an) ?_))))
       rintro rtv wd2 ⟨t, nn, o2, rfl, ht, Hd2⟩
       have H5 : Hold w [] wd2 [rR i64 2 o1 cs, rR kE 70 o2 t] := Hold.news H4 Hd2
       clear H4
       clear Hd2
       refine r (mv E) (r (xt E E) (r (xt E E) (r (sa E) (r (sa E) (re (sq ?_))))))
       refine gen (fun ρ=>ρ 9 = o2∧ρ 10=.int .i64 nn∧True) ⟨E,E,trivial⟩ ?_
       rintro ρ ⟨z9, z10, -⟩
       obtain ⟨_, R11⟩ : ∃ F, Kd.R kE wd2 F o2 t := Hold.row H5 1 rfl
       refine rg (r (mv z9) (r (mv z10) (cl go47 (impl_FreeLids R11 (by omega)) (ac E (ac E an)) ?_)))
       rintro rfl_ wfl ⟨efl, Hfl⟩
       have H6 : Hold w [] wfl [rR i64 2 o1 cs, rR kE 70 o2 t, rR i64 efl rfl_ (flD t nn)] := Hold.news H5 Hfl
       clear H5
       clear Hfl
       refine r (sa E) (re (sq (rg (r (sa E) (re (sq (sq (rg (r (sa E) (re (bl ?_)))))))))))
       refine lp (α := Nat) (fun i ρ w' => ρ 9 = o2∧ρ 10=.int .i64 nn∧ρ 11 = rfl_∧ρ 12=.int .i64 ((freeN t i).length : Int)∧ρ 13=.int .i64 (i : Int)∧Hold w [] w' [rR i64 2 o1 cs,rR kE 70 o2 t,rR i64 efl rfl_ (flD t nn)]∧i ≤ t.length) (fun i => t.length - i) 0 ?_ ?_
       ·exact ⟨z9,z10,E,E,E,H6,by omega⟩
       clear H6
       rintro i ρ w507 ⟨y9, y10, y11, y12, y13, H7, hi2⟩
       obtain ⟨_, R12⟩ : ∃ F, Kd.R kE w507 F o2 t := Hold.row H7 1 rfl
       refine sq (sq (rg (r (mv y13) (r (mv y9) (r (ln Try.underlying57 E (R12)) (r (bi E E E) (re ?_)))))))
       refine cp E (fun hlt2 => ?_) (fun hlt2 => ?_)
       ·have hi3 : i < t.length := by omega
        have hfl := freeN_len t i
        refine sk (sq (bl (sq (rg (r (mv y9) (r (mv y13) ?_))))))
        obtain ⟨c181_13, ad181_13, k181_13, e181_13, p181_13⟩ := Kd.R.place R12 i (hi3)
        have q181_13 := en_at p181_13
        refine r (ix (j := i) Try.underlying57 ti70 e181_13 E (hi3)) (r (fa' Try.underlying70 E ti2 E E) (r (ld Try.underlying2 E E (q181_13 0 _ E)) (r (bi E E E) (re ?_))))
        refine cp E (fun hz => ?_) (fun hz => ?_)
        ·refine gen (fun ρ=>ρ 9 = o2∧ρ 10=.int .i64 nn∧ρ 11 = rfl_∧ρ 12=.int .i64 ((freeN t i).length : Int)∧ρ 13=.int .i64 (i : Int)∧True) ⟨y9,y10,y11,y12,y13,trivial⟩ ?_
         rintro ρ ⟨z9, z10, z11, z12, z13, -⟩
         refine rg (r (mv z12) (r (ad (a := ((freeN t i).length : Int)) (b := 1) (((freeN t (i + 1)).length : Int)) E E (by rw [freeN_yes hi3 hz]; simp; omega)) (r (sa E) (re (be (rg (r (mv z13) (r (ad (a := (i : Int)) (b := 1) ((i : Int) + 1) E E (by omega)) (r (sa E) (re ?_))))))))))
         exact ag (i + 1) ⟨z9,z10,z11,E,E,H7,by omega⟩ (by first | omega | (dsimp only; omega))
        ·refine sk (be ?_)
         refine gen (fun ρ=>ρ 9 = o2∧ρ 10=.int .i64 nn∧ρ 11 = rfl_∧ρ 12=.int .i64 ((freeN t i).length : Int)∧ρ 13=.int .i64 (i : Int)∧True) ⟨y9,y10,y11,y12,y13,trivial⟩ ?_
         rintro ρ ⟨z9, z10, z11, z12, z13, -⟩
         refine rg (r (mv z13) (r (ad (a := (i : Int)) (b := 1) ((i : Int) + 1) E E (by omega)) (r (sa E) (re ?_))))
         rw [← freeN_no hi3 hz] at z12
         exact ag (i + 1) ⟨z9,z10,z11,z12,E,H7,by omega⟩ (by first | omega | (dsimp only; omega))
       ·obtain rfl : i = t.length := by omega
        refine ex E (sq (sq (rg (r (mv y10) (r (bi E E E) (r (mv E) ?_))))))
        refine sp 189 E (fun hn1 => ?_) (fun hn1 => ?_)
        ·refine gn E E E (gn E E E (gn E E E (r (pk E E) (re (ct E (sq ?_))))))
         refine gen (fun ρ=>ρ 9 = o2∧ρ 10=.int .i64 nn∧ρ 11 = rfl_∧True) ⟨y9,y10,y11,trivial⟩ ?_
         rintro ρ ⟨z9, z10, z11, -⟩
         obtain ⟨_, R13⟩ : ∃ F, Kd.R i64 w507 F rfl_ (flD t nn) := Hold.row H7 2 rfl
         refine rg (r (mv z11) (r (ln Try.underlying22 E (R13)) (r (bi E E E) (r (sa E) (re (rt ?_))))))
         exact fin1 (v := .bool (decide (((flD t nn).length : Int) = 0))) Try.results10 E ⟨congrArg Value.bool (by rw [flD_nil (.inl hn1)]; simp),Hold.ch H7⟩
        ·refine gy E E E (r (mv y10) (gy E E E (r (mv y12) (gy E E E (r (bi E E E) (r (pk E E) (re ?_)))))))
         refine cp E (fun hn2 => ?_) (fun hn2 => ?_)
         ·refine sq ?_
          refine gen (fun ρ=>ρ 9 = o2∧ρ 10=.int .i64 nn∧ρ 11 = rfl_∧True) ⟨y9,y10,y11,trivial⟩ ?_
          rintro ρ ⟨z9, z10, z11, -⟩
          obtain ⟨_, R13⟩ : ∃ F, Kd.R i64 w507 F rfl_ (flD t nn) := Hold.row H7 2 rfl
          refine rg (r (mv z11) (r (ln Try.underlying22 E (R13)) (r (bi E E E) (r (sa E) (re (rt ?_))))))
          exact fin1 (v := .bool (decide (((flD t nn).length : Int) = 0))) Try.results10 E ⟨congrArg Value.bool (by rw [flD_nil (.inr (by omega))]; simp),Hold.ch H7⟩
         ·obtain ⟨hF1, hF2⟩ := flD_full (t := t) (n := nn) (by omega) (by omega)
          refine sk (sq (sq ?_))
          refine gen (fun ρ=>ρ 9 = o2∧ρ 10=.int .i64 nn∧ρ 11 = rfl_∧True) ⟨y9,y10,y11,trivial⟩ ?_
          rintro ρ ⟨z9, z10, z11, -⟩
          obtain ⟨_, R13⟩ : ∃ F, Kd.R i64 w507 F rfl_ (flD t nn) := Hold.row H7 2 rfl
          refine rg (r (mv z11) (r (ln Try.underlying22 E (R13)) (r (mv z10) (r (bi E E E) (re ?_)))))
          refine cf ((E : _ = Value.bool (!decide (((flD t nn).length : Int) = nn))).trans (congrArg Value.bool (show (!decide (((flD t nn).length : Int) = nn)) = false from (by rw [decide_eq_true hF1]; rfl)))) ?_
          refine sk (sq (rg (r (sa E) (re (sq (sq (rg (r (sa E) (re (bl ?_))))))))))
          refine lp (α := Nat) (fun i ρ w' => ρ 9 = o2∧ρ 10=.int .i64 nn∧ρ 11 = rfl_∧ρ 14=.int .i64 ((freeN t i).length : Int)∧ρ 15=.int .i64 (i : Int)∧Hold w [] w' [rR i64 2 o1 cs,rR kE 70 o2 t,rR i64 efl rfl_ (flD t nn)]∧i ≤ t.length) (fun i => t.length - i) 0 ?_ ?_
          ·exact ⟨z9,z10,z11,E,E,H7,by omega⟩
          clear H7
          rintro i ρ w508 ⟨y9, y10, y11, y14, y15, H8, hi2⟩
          obtain ⟨_, R14⟩ : ∃ F, Kd.R kE w508 F o2 t := Hold.row H8 1 rfl
          refine sq (sq (rg (r (mv y15) (r (mv y9) (r (ln Try.underlying57 E (R14)) (r (bi E E E) (r (mv E) ?_)))))))
          refine sp 205 E (fun hm1 => ?_) (fun hm1 => ?_)
          ·refine gy E E E (r (mv y14) (gy E E E (r (mv y10) (gy E E E (r (bi E E E) (r (pk E E) (re ?_)))))))
           refine cp E (fun hm2 => ?_) (fun hm2 => ?_)
           ·have hi3 : i < t.length := by omega
            have hfl := freeN_len t i
            refine sk (sq (bl (sq (rg (r (mv y9) (r (mv y15) ?_))))))
            obtain ⟨c214_15, ad214_15, k214_15, e214_15, p214_15⟩ := Kd.R.place R14 i (hi3)
            have q214_15 := en_at p214_15
            refine r (ix (j := i) Try.underlying57 ti70 e214_15 E (hi3)) (r (fa' Try.underlying70 E ti2 E E) (r (ld Try.underlying2 E E (q214_15 0 _ E)) (r (bi E E E) (re ?_))))
            refine cp E (fun hz => ?_) (fun hz => ?_)
            ·have hkl : (freeN t i).length < (flD t nn).length := by omega
             have hAt : (flD t nn)[(freeN t i).length] = (i : Int) + 1 := by
              have h9 := (hF2 _ hm2).trans (freeN_at hi3 hz)
              rw [List.getElem?_eq_getElem hkl] at h9; exact Option.some.inj h9
             obtain ⟨kk, hkk⟩ : ∃ k, k = (freeN t i).length := ⟨_, rfl⟩
             refine sq (sq ?_)
             refine gen (fun ρ=>ρ 9 = o2∧ρ 10=.int .i64 nn∧ρ 11 = rfl_∧ρ 14=.int .i64 ((freeN t i).length : Int)∧ρ 15=.int .i64 (i : Int)∧True) ⟨y9,y10,y11,y14,y15,trivial⟩ ?_
             rintro ρ ⟨z9, z10, z11, z14, z15, -⟩
             obtain ⟨_, R16⟩ : ∃ F, Kd.R i64 w508 F rfl_ (flD t nn) := Hold.row H8 2 rfl
             refine rg (r (mv z11) (r (mv z14) ?_))
             obtain ⟨c220_17, ad220_17, k220_17, e220_17, p220_17⟩ := Kd.R.place R16 ((freeN t i).length) (hkl)
             refine r (ix (j := (freeN t i).length) Try.underlying22 ti2 e220_17 E (hkl)) (r (ld Try.underlying2 E E p220_17.cell) (r (mv z15) (r (ad (a := (i : Int)) (b := 1) ((i : Int) + 1) E E (by omega)) (r (bi E E E) (re ?_)))))
             refine cf ((E : _ = Value.bool (!decide (((flD t nn)[(freeN t i).length]) = ((i : Int) + 1)))).trans (congrArg Value.bool (show (!decide (((flD t nn)[(freeN t i).length]) = ((i : Int) + 1))) = false from (by rw [decide_eq_true hAt]; rfl)))) ?_
             refine sk (rg (r (mv z14) (r (ad (a := ((freeN t i).length : Int)) (b := 1) (((freeN t (i + 1)).length : Int)) E E (by rw [freeN_yes hi3 hz]; simp; omega)) (r (sa E) (re (be ?_))))))
             refine gen (fun ρ=>ρ 9 = o2∧ρ 10=.int .i64 nn∧ρ 11 = rfl_∧ρ 14=.int .i64 ((freeN t (i + 1)).length : Int)∧ρ 15=.int .i64 (i : Int)∧True) ⟨z9,z10,z11,E,z15,trivial⟩ ?_
             rintro ρ ⟨z9, z10, z11, z14, z15, -⟩
             refine rg (r (mv z15) (r (ad (a := (i : Int)) (b := 1) ((i : Int) + 1) E E (by omega)) (r (sa E) (re ?_))))
             exact ag (i + 1) ⟨z9,z10,z11,z14,E,H8,by omega⟩ (by first | omega | (dsimp only; omega))
            ·refine sk (be ?_)
             refine gen (fun ρ=>ρ 9 = o2∧ρ 10=.int .i64 nn∧ρ 11 = rfl_∧ρ 14=.int .i64 ((freeN t i).length : Int)∧ρ 15=.int .i64 (i : Int)∧True) ⟨y9,y10,y11,y14,y15,trivial⟩ ?_
             rintro ρ ⟨z9, z10, z11, z14, z15, -⟩
             refine rg (r (mv z15) (r (ad (a := (i : Int)) (b := 1) ((i : Int) + 1) E E (by omega)) (r (sa E) (re ?_))))
             rw [← freeN_no hi3 hz] at z14
             exact ag (i + 1) ⟨z9,z10,z11,z14,E,H8,by omega⟩ (by first | omega | (dsimp only; omega))
           ·refine ex E (sq (rg (r (sa E) (re (rt ?_)))))
            exact fin1 (v := .bool true) Try.results10 E ⟨E,Hold.ch H8⟩
          ·refine gn E E E (gn E E E (gn E E E (r (pk E E) (re (cf E (ex E (sq (rg (r (sa E) (re (rt ?_)))))))))))
           exact fin1 (v := .bool true) Try.results10 E ⟨E,Hold.ch H8⟩
     ·refine gn E E E (gn E E E (gn E E E (gn E E E (gu E E E (gu E E E (gu E E E (gu E E E (gu E E E (gn E E E (gy E E E (r (pk E E) (r (pk E E) (re (cf E (sk (sq (sq ?_)))))))))))))))))
      refine gen (fun ρ=>ρ 0 = v∧ρ 2=.bool false∧ρ 3 = o1∧ρ 4=.int .i64 aq∧ρ 5=.int .i64 mz∧ρ 6=.int .i64 (j : Int)∧ρ 7=.int .i64 (f : Int)∧True) ⟨z0,z2,z3,z4,z5,z6,z7,trivial⟩ ?_
      rintro ρ ⟨z0, z2, z3, z4, z5, z6, z7, -⟩
      refine rg (r (sa E) (re (bl ?_)))
      refine lp (α := Nat) (fun i ρ w' => ρ 0 = v∧ρ 3 = o1∧ρ 4=.int .i64 aq∧ρ 5=.int .i64 mz∧ρ 6=.int .i64 (j : Int)∧ρ 7=.int .i64 (f : Int)∧ρ 8=.int .i64 (i : Int)∧Hold w [] w' [rR i64 2 o1 cs]∧i ≤ cs.length) (fun i => cs.length - i) 0 ?_ ?_
      ·exact ⟨z0,z3,z4,z5,z6,z7,E,H3,by omega⟩
      clear H3
      rintro i ρ w504 ⟨y0, y3, y4, y5, y6, y7, y8, H4, hi⟩
      obtain ⟨_, R7⟩ : ∃ F, Kd.R i64 w504 F o1 cs := Hold.row H4 0 rfl
      refine sq (sq (rg (r (mv y8) (r (mv y3) (r (ln Try.underlying22 E (R7)) (r (bi E E E) (re ?_)))))))
      refine cp E (fun hlt => ?_) (fun hlt => ?_)
      ·have hi' : i < cs.length := by omega
       have hvi := hjm i hi'
       simp only [inside_iff] at hvi
       have hwi := hfm i hi'
       simp only [decide_eq_true_eq] at hwi
       refine sk (sq (bl (sq (sq (rg (r (mv y8) (r (mv y4) (r (bi E E E) (r (mv E) ?_)))))))))
       refine spn 97 E (fun k122 => ?_) (fun k122 => ?_)
       ·refine gy E E E (r (mv y3) (gy E E E (r (mv y8) (gy E E E ?_))))
        obtain ⟨c100_8, ad100_8, k100_8, e100_8, p100_8⟩ := Kd.R.place R7 i (hi')
        refine r (ix (j := i) Try.underlying22 ti2 e100_8 E (hi')) (gy E E E (r (ld Try.underlying2 E E p100_8.cell) (gy E E E (r (bi E E E) (r (pk E E) (r (mv E) ?_))))))
        refine sp 104 E (fun k123 => ?_) (fun k123 => ?_)
        ·refine gy E E E (r (mv y3) (gy E E E (r (mv y8) (gy E E E ?_))))
         obtain ⟨c107_9, ad107_9, k107_9, e107_9, p107_9⟩ := Kd.R.place R7 i (hi')
         refine r (ix (j := i) Try.underlying22 ti2 e107_9 E (hi')) (gy E E E (r (ld Try.underlying2 E E p107_9.cell) (gy E E E (r (mv y5) (gy E E E (r (bi E E E) (r (pk E E) (r (mv E) ?_))))))))
         refine sp 112 E (fun k124 => ?_) (fun k124 => ?_)
         ·refine gy E E E (r (mv y8) (gy E E E (r (mv y6) (gy E E E (r (bi E E E) (r (pk E E) (re ?_)))))))
          refine cpn E (fun k125 => ?_) (fun k125 => ?_)
          ·refine sq ?_
           refine gen (fun ρ=>ρ 0 = v∧ρ 3 = o1∧ρ 4=.int .i64 aq∧ρ 5=.int .i64 mz∧ρ 6=.int .i64 (j : Int)∧ρ 7=.int .i64 (f : Int)∧ρ 8=.int .i64 (i : Int)∧True) ⟨y0,y3,y4,y5,y6,y7,y8,trivial⟩ ?_
           rintro ρ ⟨z0, z3, z4, z5, z6, z7, z8, -⟩
           refine rd mixed (by kernel_rfl) (q (mv z6) (q (bi E E E) (q (mv E) ?_)))
           refine spfq 119 E (show (decide ((j : Int) < 0)) = false from (decide_eq_false (by omega))) ?_
           refine gyq E E E (q (mv z3) (gyq E E E (q (mv z8) (gyq E E E ?_))))
           obtain ⟨c122_10, ad122_10, k122_10, e122_10, p122_10⟩ := Kd.R.place R7 i (hi')
           refine q (ix (j := i) Try.underlying22 ti2 e122_10 E (hi')) (gyq E E E (q (ld Try.underlying2 E E p122_10.cell) (gyq E E E (q (mv z3) (gyq E E E (q (mv z6) (gyq E E E ?_)))))))
           obtain ⟨c126_11, ad126_11, k126_11, e126_11, p126_11⟩ := Kd.R.place R7 j (hj)
           refine q (ix (j := j) Try.underlying22 ti2 e126_11 E (hj)) (gyq E E E (q (ld Try.underlying2 E E p126_11.cell) (gyq E E E (q (bi E E E) (q (pk E E) (q (mv E) ?_))))))
           refine spfq 130 E (show (decide ((cs[i]) < (cs[j]))) = false from (decide_eq_false (by omega))) ?_
           refine gyq E E E (q (mv z3) (gyq E E E (q (mv z8) (gyq E E E ?_))))
           obtain ⟨c133_12, ad133_12, k133_12, e133_12, p133_12⟩ := Kd.R.place R7 i (hi')
           refine q (ix (j := i) Try.underlying22 ti2 e133_12 E (hi')) (gyq E E E (q (ld Try.underlying2 E E p133_12.cell) (gyq E E E (q (mv z3) (gyq E E E (q (mv z6) (gyq E E E ?_)))))))
           obtain ⟨c137_13, ad137_13, k137_13, e137_13, p137_13⟩ := Kd.R.place R7 j (hj)
           refine q (ix (j := j) Try.underlying22 ti2 e137_13 E (hj)) (gyq E E E (q (ld Try.underlying2 E E p137_13.cell) (gyq E E E (q (bi E E E) (gyq E E E (q (mv E) ?_))))))
           refine spq 140 E (fun k126 => ?_) (fun k126 => ?_)
           ·refine gyq E E E (q (mv z8) (gyq E E E (q (mv z6) (gyq E E E (q (bi E E E) (gyq E E E (q (pk E E) (q (pk E E) (me ?_)))))))))
            intro w1 c1
            have H5 : Hold w [] w1 [rR i64 2 o1 cs] := Hold.t H4 c1
            clear H4
            refine cf ((E : _ = Value.bool (decide ((i : Int) < (j : Int)))).trans (congrArg Value.bool (show (decide ((i : Int) < (j : Int))) = false from (decide_eq_false (by omega))))) ?_
            refine sk (sq ?_)
            refine gen (fun ρ=>ρ 0 = v∧ρ 3 = o1∧ρ 4=.int .i64 aq∧ρ 5=.int .i64 mz∧ρ 6=.int .i64 (j : Int)∧ρ 7=.int .i64 (f : Int)∧ρ 8=.int .i64 (i : Int)∧True) ⟨z0,z3,z4,z5,z6,z7,z8,trivial⟩ ?_
            rintro ρ ⟨z0, z3, z4, z5, z6, z7, z8, -⟩
            refine rg (r (mv z8) (r (mv z4) (r (bi E E E) (r (mv E) ?_))))
            refine spn 149 E (fun k127 => ?_) (fun k127 => ?_)
            ·obtain ⟨_, R14⟩ : ∃ F, Kd.R i64 w1 F o1 cs := Hold.row H5 0 rfl
             refine gy E E E (r (mv z3) (gy E E E (r (mv z8) (gy E E E ?_))))
             obtain ⟨c152_15, ad152_15, k152_15, e152_15, p152_15⟩ := Kd.R.place R14 i (hi')
             refine r (ix (j := i) Try.underlying22 ti2 e152_15 E (hi')) (gy E E E (r (ld Try.underlying2 E E p152_15.cell) (gy E E E (r (bi E E E) (r (pk E E) (r (mv E) ?_))))))
             refine sp 156 E (fun k128 => ?_) (fun k128 => ?_)
             ·refine gy E E E (r (mv z7) (gy E E E (r (bi E E E) (gy E E E (r (mv E) ?_)))))
              refine spf 159 E (show (decide ((f : Int) < 0)) = false from (decide_eq_false (by omega))) ?_
              refine gy E E E (r (mv z8) (gy E E E (r (mv z7) (gy E E E (r (bi E E E) (gy E E E (r (pk E E) (r (pk E E) (re ?_)))))))))
              refine cf ((E : _ = Value.bool (decide ((i : Int) < (f : Int)))).trans (congrArg Value.bool (show (decide ((i : Int) < (f : Int))) = false from (decide_eq_false (by omega))))) ?_
              refine sk (be ?_)
              refine gen (fun ρ=>ρ 0 = v∧ρ 3 = o1∧ρ 4=.int .i64 aq∧ρ 5=.int .i64 mz∧ρ 6=.int .i64 (j : Int)∧ρ 7=.int .i64 (f : Int)∧ρ 8=.int .i64 (i : Int)∧True) ⟨z0,z3,z4,z5,z6,z7,z8,trivial⟩ ?_
              rintro ρ ⟨z0, z3, z4, z5, z6, z7, z8, -⟩
              refine rg (r (mv z8) (r (ad (a := (i : Int)) (b := 1) ((i : Int) + 1) E E (by omega)) (r (sa E) (re ?_))))
              exact ag (i + 1) ⟨z0,z3,z4,z5,z6,z7,E,H5,by omega⟩ (by first | omega | (dsimp only; omega))
             ·refine gn E E E (gn E E E (gn E E E (gu E E E (gu E E E (gu E E E (gn E E E (r (pk E E) (re (cf E (sk (be ?_)))))))))))
              refine gen (fun ρ=>ρ 0 = v∧ρ 3 = o1∧ρ 4=.int .i64 aq∧ρ 5=.int .i64 mz∧ρ 6=.int .i64 (j : Int)∧ρ 7=.int .i64 (f : Int)∧ρ 8=.int .i64 (i : Int)∧True) ⟨z0,z3,z4,z5,z6,z7,z8,trivial⟩ ?_
              rintro ρ ⟨z0, z3, z4, z5, z6, z7, z8, -⟩
              refine rg (r (mv z8) (r (ad (a := (i : Int)) (b := 1) ((i : Int) + 1) E E (by omega)) (r (sa E) (re ?_))))
              exact ag (i + 1) ⟨z0,z3,z4,z5,z6,z7,E,H5,by omega⟩ (by first | omega | (dsimp only; omega))
            ·refine gn E E E (gn E E E (gn E E E (gn E E E (gn E E E (r (pk E E) (r (mv E) (gn E E E (gn E E E (gn E E E (gu E E E (gu E E E (gu E E E (gn E E E (r (pk E E) (re (cf E (sk (be ?_))))))))))))))))))
             refine gen (fun ρ=>ρ 0 = v∧ρ 3 = o1∧ρ 4=.int .i64 aq∧ρ 5=.int .i64 mz∧ρ 6=.int .i64 (j : Int)∧ρ 7=.int .i64 (f : Int)∧ρ 8=.int .i64 (i : Int)∧True) ⟨z0,z3,z4,z5,z6,z7,z8,trivial⟩ ?_
             rintro ρ ⟨z0, z3, z4, z5, z6, z7, z8, -⟩
             refine rg (r (mv z8) (r (ad (a := (i : Int)) (b := 1) ((i : Int) + 1) E E (by omega)) (r (sa E) (re ?_))))
             exact ag (i + 1) ⟨z0,z3,z4,z5,z6,z7,E,H5,by omega⟩ (by first | omega | (dsimp only; omega))
           ·refine gnq E E E (gnq E E E (gnq E E E (gyq E E E (q (pk E E) (q (pk E E) (me ?_))))))
            intro w1 c1
            have H5 : Hold w [] w1 [rR i64 2 o1 cs] := Hold.t H4 c1
            clear H4
            refine cf E (sk (sq ?_))
            refine gen (fun ρ=>ρ 0 = v∧ρ 3 = o1∧ρ 4=.int .i64 aq∧ρ 5=.int .i64 mz∧ρ 6=.int .i64 (j : Int)∧ρ 7=.int .i64 (f : Int)∧ρ 8=.int .i64 (i : Int)∧True) ⟨z0,z3,z4,z5,z6,z7,z8,trivial⟩ ?_
            rintro ρ ⟨z0, z3, z4, z5, z6, z7, z8, -⟩
            refine rg (r (mv z8) (r (mv z4) (r (bi E E E) (r (mv E) ?_))))
            refine spn 149 E (fun k129 => ?_) (fun k129 => ?_)
            ·obtain ⟨_, R14⟩ : ∃ F, Kd.R i64 w1 F o1 cs := Hold.row H5 0 rfl
             refine gy E E E (r (mv z3) (gy E E E (r (mv z8) (gy E E E ?_))))
             obtain ⟨c152_15, ad152_15, k152_15, e152_15, p152_15⟩ := Kd.R.place R14 i (hi')
             refine r (ix (j := i) Try.underlying22 ti2 e152_15 E (hi')) (gy E E E (r (ld Try.underlying2 E E p152_15.cell) (gy E E E (r (bi E E E) (r (pk E E) (r (mv E) ?_))))))
             refine sp 156 E (fun k130 => ?_) (fun k130 => ?_)
             ·refine gy E E E (r (mv z7) (gy E E E (r (bi E E E) (gy E E E (r (mv E) ?_)))))
              refine spf 159 E (show (decide ((f : Int) < 0)) = false from (decide_eq_false (by omega))) ?_
              refine gy E E E (r (mv z8) (gy E E E (r (mv z7) (gy E E E (r (bi E E E) (gy E E E (r (pk E E) (r (pk E E) (re ?_)))))))))
              refine cf ((E : _ = Value.bool (decide ((i : Int) < (f : Int)))).trans (congrArg Value.bool (show (decide ((i : Int) < (f : Int))) = false from (decide_eq_false (by omega))))) ?_
              refine sk (be ?_)
              refine gen (fun ρ=>ρ 0 = v∧ρ 3 = o1∧ρ 4=.int .i64 aq∧ρ 5=.int .i64 mz∧ρ 6=.int .i64 (j : Int)∧ρ 7=.int .i64 (f : Int)∧ρ 8=.int .i64 (i : Int)∧True) ⟨z0,z3,z4,z5,z6,z7,z8,trivial⟩ ?_
              rintro ρ ⟨z0, z3, z4, z5, z6, z7, z8, -⟩
              refine rg (r (mv z8) (r (ad (a := (i : Int)) (b := 1) ((i : Int) + 1) E E (by omega)) (r (sa E) (re ?_))))
              exact ag (i + 1) ⟨z0,z3,z4,z5,z6,z7,E,H5,by omega⟩ (by first | omega | (dsimp only; omega))
             ·refine gn E E E (gn E E E (gn E E E (gu E E E (gu E E E (gu E E E (gn E E E (r (pk E E) (re (cf E (sk (be ?_)))))))))))
              refine gen (fun ρ=>ρ 0 = v∧ρ 3 = o1∧ρ 4=.int .i64 aq∧ρ 5=.int .i64 mz∧ρ 6=.int .i64 (j : Int)∧ρ 7=.int .i64 (f : Int)∧ρ 8=.int .i64 (i : Int)∧True) ⟨z0,z3,z4,z5,z6,z7,z8,trivial⟩ ?_
              rintro ρ ⟨z0, z3, z4, z5, z6, z7, z8, -⟩
              refine rg (r (mv z8) (r (ad (a := (i : Int)) (b := 1) ((i : Int) + 1) E E (by omega)) (r (sa E) (re ?_))))
              exact ag (i + 1) ⟨z0,z3,z4,z5,z6,z7,E,H5,by omega⟩ (by first | omega | (dsimp only; omega))
            ·refine gn E E E (gn E E E (gn E E E (gn E E E (gn E E E (r (pk E E) (r (mv E) (gn E E E (gn E E E (gn E E E (gu E E E (gu E E E (gu E E E (gn E E E (r (pk E E) (re (cf E (sk (be ?_))))))))))))))))))
             refine gen (fun ρ=>ρ 0 = v∧ρ 3 = o1∧ρ 4=.int .i64 aq∧ρ 5=.int .i64 mz∧ρ 6=.int .i64 (j : Int)∧ρ 7=.int .i64 (f : Int)∧ρ 8=.int .i64 (i : Int)∧True) ⟨z0,z3,z4,z5,z6,z7,z8,trivial⟩ ?_
             rintro ρ ⟨z0, z3, z4, z5, z6, z7, z8, -⟩
             refine rg (r (mv z8) (r (ad (a := (i : Int)) (b := 1) ((i : Int) + 1) E E (by omega)) (r (sa E) (re ?_))))
             exact ag (i + 1) ⟨z0,z3,z4,z5,z6,z7,E,H5,by omega⟩ (by first | omega | (dsimp only; omega))
          ·refine sk (sq ?_)
           refine gen (fun ρ=>ρ 0 = v∧ρ 3 = o1∧ρ 4=.int .i64 aq∧ρ 5=.int .i64 mz∧ρ 6=.int .i64 (j : Int)∧ρ 7=.int .i64 (f : Int)∧ρ 8=.int .i64 (i : Int)∧True) ⟨y0,y3,y4,y5,y6,y7,y8,trivial⟩ ?_
           rintro ρ ⟨z0, z3, z4, z5, z6, z7, z8, -⟩
           refine rg (r (mv z8) (r (mv z4) (r (bi E E E) (r (mv E) ?_))))
           refine spn 149 E (fun k131 => ?_) (fun k131 => ?_)
           ·refine gy E E E (r (mv z3) (gy E E E (r (mv z8) (gy E E E ?_))))
            obtain ⟨c152_10, ad152_10, k152_10, e152_10, p152_10⟩ := Kd.R.place R7 i (hi')
            refine r (ix (j := i) Try.underlying22 ti2 e152_10 E (hi')) (gy E E E (r (ld Try.underlying2 E E p152_10.cell) (gy E E E (r (bi E E E) (r (pk E E) (r (mv E) ?_))))))
            refine sp 156 E (fun k132 => ?_) (fun k132 => ?_)
            ·refine gy E E E (r (mv z7) (gy E E E (r (bi E E E) (gy E E E (r (mv E) ?_)))))
             refine spf 159 E (show (decide ((f : Int) < 0)) = false from (decide_eq_false (by omega))) ?_
             refine gy E E E (r (mv z8) (gy E E E (r (mv z7) (gy E E E (r (bi E E E) (gy E E E (r (pk E E) (r (pk E E) (re ?_)))))))))
             refine cf ((E : _ = Value.bool (decide ((i : Int) < (f : Int)))).trans (congrArg Value.bool (show (decide ((i : Int) < (f : Int))) = false from (decide_eq_false (by omega))))) ?_
             refine sk (be ?_)
             refine gen (fun ρ=>ρ 0 = v∧ρ 3 = o1∧ρ 4=.int .i64 aq∧ρ 5=.int .i64 mz∧ρ 6=.int .i64 (j : Int)∧ρ 7=.int .i64 (f : Int)∧ρ 8=.int .i64 (i : Int)∧True) ⟨z0,z3,z4,z5,z6,z7,z8,trivial⟩ ?_
             rintro ρ ⟨z0, z3, z4, z5, z6, z7, z8, -⟩
             refine rg (r (mv z8) (r (ad (a := (i : Int)) (b := 1) ((i : Int) + 1) E E (by omega)) (r (sa E) (re ?_))))
             exact ag (i + 1) ⟨z0,z3,z4,z5,z6,z7,E,H4,by omega⟩ (by first | omega | (dsimp only; omega))
            ·refine gn E E E (gn E E E (gn E E E (gu E E E (gu E E E (gu E E E (gn E E E (r (pk E E) (re (cf E (sk (be ?_)))))))))))
             refine gen (fun ρ=>ρ 0 = v∧ρ 3 = o1∧ρ 4=.int .i64 aq∧ρ 5=.int .i64 mz∧ρ 6=.int .i64 (j : Int)∧ρ 7=.int .i64 (f : Int)∧ρ 8=.int .i64 (i : Int)∧True) ⟨z0,z3,z4,z5,z6,z7,z8,trivial⟩ ?_
             rintro ρ ⟨z0, z3, z4, z5, z6, z7, z8, -⟩
             refine rg (r (mv z8) (r (ad (a := (i : Int)) (b := 1) ((i : Int) + 1) E E (by omega)) (r (sa E) (re ?_))))
             exact ag (i + 1) ⟨z0,z3,z4,z5,z6,z7,E,H4,by omega⟩ (by first | omega | (dsimp only; omega))
           ·refine gn E E E (gn E E E (gn E E E (gn E E E (gn E E E (r (pk E E) (r (mv E) (gn E E E (gn E E E (gn E E E (gu E E E (gu E E E (gu E E E (gn E E E (r (pk E E) (re (cf E (sk (be ?_))))))))))))))))))
            refine gen (fun ρ=>ρ 0 = v∧ρ 3 = o1∧ρ 4=.int .i64 aq∧ρ 5=.int .i64 mz∧ρ 6=.int .i64 (j : Int)∧ρ 7=.int .i64 (f : Int)∧ρ 8=.int .i64 (i : Int)∧True) ⟨z0,z3,z4,z5,z6,z7,z8,trivial⟩ ?_
            rintro ρ ⟨z0, z3, z4, z5, z6, z7, z8, -⟩
            refine rg (r (mv z8) (r (ad (a := (i : Int)) (b := 1) ((i : Int) + 1) E E (by omega)) (r (sa E) (re ?_))))
            exact ag (i + 1) ⟨z0,z3,z4,z5,z6,z7,E,H4,by omega⟩ (by first | omega | (dsimp only; omega))
         ·refine gn E E E (gn E E E (gn E E E (r (pk E E) (re (cf E (sk (sq ?_)))))))
          refine gen (fun ρ=>ρ 0 = v∧ρ 3 = o1∧ρ 4=.int .i64 aq∧ρ 5=.int .i64 mz∧ρ 6=.int .i64 (j : Int)∧ρ 7=.int .i64 (f : Int)∧ρ 8=.int .i64 (i : Int)∧True) ⟨y0,y3,y4,y5,y6,y7,y8,trivial⟩ ?_
          rintro ρ ⟨z0, z3, z4, z5, z6, z7, z8, -⟩
          refine rg (r (mv z8) (r (mv z4) (r (bi E E E) (r (mv E) ?_))))
          refine spn 149 E (fun k133 => ?_) (fun k133 => ?_)
          ·refine gy E E E (r (mv z3) (gy E E E (r (mv z8) (gy E E E ?_))))
           obtain ⟨c152_10, ad152_10, k152_10, e152_10, p152_10⟩ := Kd.R.place R7 i (hi')
           refine r (ix (j := i) Try.underlying22 ti2 e152_10 E (hi')) (gy E E E (r (ld Try.underlying2 E E p152_10.cell) (gy E E E (r (bi E E E) (r (pk E E) (r (mv E) ?_))))))
           refine sp 156 E (fun k134 => ?_) (fun k134 => ?_)
           ·refine gy E E E (r (mv z7) (gy E E E (r (bi E E E) (gy E E E (r (mv E) ?_)))))
            refine spf 159 E (show (decide ((f : Int) < 0)) = false from (decide_eq_false (by omega))) ?_
            refine gy E E E (r (mv z8) (gy E E E (r (mv z7) (gy E E E (r (bi E E E) (gy E E E (r (pk E E) (r (pk E E) (re ?_)))))))))
            refine cf ((E : _ = Value.bool (decide ((i : Int) < (f : Int)))).trans (congrArg Value.bool (show (decide ((i : Int) < (f : Int))) = false from (decide_eq_false (by omega))))) ?_
            refine sk (be ?_)
            refine gen (fun ρ=>ρ 0 = v∧ρ 3 = o1∧ρ 4=.int .i64 aq∧ρ 5=.int .i64 mz∧ρ 6=.int .i64 (j : Int)∧ρ 7=.int .i64 (f : Int)∧ρ 8=.int .i64 (i : Int)∧True) ⟨z0,z3,z4,z5,z6,z7,z8,trivial⟩ ?_
            rintro ρ ⟨z0, z3, z4, z5, z6, z7, z8, -⟩
            refine rg (r (mv z8) (r (ad (a := (i : Int)) (b := 1) ((i : Int) + 1) E E (by omega)) (r (sa E) (re ?_))))
            exact ag (i + 1) ⟨z0,z3,z4,z5,z6,z7,E,H4,by omega⟩ (by first | omega | (dsimp only; omega))
           ·refine gn E E E (gn E E E (gn E E E (gu E E E (gu E E E (gu E E E (gn E E E (r (pk E E) (re (cf E (sk (be ?_)))))))))))
            refine gen (fun ρ=>ρ 0 = v∧ρ 3 = o1∧ρ 4=.int .i64 aq∧ρ 5=.int .i64 mz∧ρ 6=.int .i64 (j : Int)∧ρ 7=.int .i64 (f : Int)∧ρ 8=.int .i64 (i : Int)∧True) ⟨z0,z3,z4,z5,z6,z7,z8,trivial⟩ ?_
            rintro ρ ⟨z0, z3, z4, z5, z6, z7, z8, -⟩
            refine rg (r (mv z8) (r (ad (a := (i : Int)) (b := 1) ((i : Int) + 1) E E (by omega)) (r (sa E) (re ?_))))
            exact ag (i + 1) ⟨z0,z3,z4,z5,z6,z7,E,H4,by omega⟩ (by first | omega | (dsimp only; omega))
          ·refine gn E E E (gn E E E (gn E E E (gn E E E (gn E E E (r (pk E E) (r (mv E) (gn E E E (gn E E E (gn E E E (gu E E E (gu E E E (gu E E E (gn E E E (r (pk E E) (re (cf E (sk (be ?_))))))))))))))))))
           refine gen (fun ρ=>ρ 0 = v∧ρ 3 = o1∧ρ 4=.int .i64 aq∧ρ 5=.int .i64 mz∧ρ 6=.int .i64 (j : Int)∧ρ 7=.int .i64 (f : Int)∧ρ 8=.int .i64 (i : Int)∧True) ⟨z0,z3,z4,z5,z6,z7,z8,trivial⟩ ?_
           rintro ρ ⟨z0, z3, z4, z5, z6, z7, z8, -⟩
           refine rg (r (mv z8) (r (ad (a := (i : Int)) (b := 1) ((i : Int) + 1) E E (by omega)) (r (sa E) (re ?_))))
           exact ag (i + 1) ⟨z0,z3,z4,z5,z6,z7,E,H4,by omega⟩ (by first | omega | (dsimp only; omega))
        ·refine gn E E E (gn E E E (gn E E E (gn E E E (gn E E E (gn E E E (r (pk E E) (r (mv E) (gn E E E (gn E E E (gn E E E (r (pk E E) (re (cf E (sk (sq ?_)))))))))))))))
         refine gen (fun ρ=>ρ 0 = v∧ρ 3 = o1∧ρ 4=.int .i64 aq∧ρ 5=.int .i64 mz∧ρ 6=.int .i64 (j : Int)∧ρ 7=.int .i64 (f : Int)∧ρ 8=.int .i64 (i : Int)∧True) ⟨y0,y3,y4,y5,y6,y7,y8,trivial⟩ ?_
         rintro ρ ⟨z0, z3, z4, z5, z6, z7, z8, -⟩
         refine rg (r (mv z8) (r (mv z4) (r (bi E E E) (r (mv E) ?_))))
         refine spn 149 E (fun k135 => ?_) (fun k135 => ?_)
         ·refine gy E E E (r (mv z3) (gy E E E (r (mv z8) (gy E E E ?_))))
          obtain ⟨c152_9, ad152_9, k152_9, e152_9, p152_9⟩ := Kd.R.place R7 i (hi')
          refine r (ix (j := i) Try.underlying22 ti2 e152_9 E (hi')) (gy E E E (r (ld Try.underlying2 E E p152_9.cell) (gy E E E (r (bi E E E) (r (pk E E) (r (mv E) ?_))))))
          refine sp 156 E (fun k136 => ?_) (fun k136 => ?_)
          ·refine gy E E E (r (mv z7) (gy E E E (r (bi E E E) (gy E E E (r (mv E) ?_)))))
           refine spf 159 E (show (decide ((f : Int) < 0)) = false from (decide_eq_false (by omega))) ?_
           refine gy E E E (r (mv z8) (gy E E E (r (mv z7) (gy E E E (r (bi E E E) (gy E E E (r (pk E E) (r (pk E E) (re ?_)))))))))
           refine cf ((E : _ = Value.bool (decide ((i : Int) < (f : Int)))).trans (congrArg Value.bool (show (decide ((i : Int) < (f : Int))) = false from (decide_eq_false (by omega))))) ?_
           refine sk (be ?_)
           refine gen (fun ρ=>ρ 0 = v∧ρ 3 = o1∧ρ 4=.int .i64 aq∧ρ 5=.int .i64 mz∧ρ 6=.int .i64 (j : Int)∧ρ 7=.int .i64 (f : Int)∧ρ 8=.int .i64 (i : Int)∧True) ⟨z0,z3,z4,z5,z6,z7,z8,trivial⟩ ?_
           rintro ρ ⟨z0, z3, z4, z5, z6, z7, z8, -⟩
           refine rg (r (mv z8) (r (ad (a := (i : Int)) (b := 1) ((i : Int) + 1) E E (by omega)) (r (sa E) (re ?_))))
           exact ag (i + 1) ⟨z0,z3,z4,z5,z6,z7,E,H4,by omega⟩ (by first | omega | (dsimp only; omega))
          ·refine gn E E E (gn E E E (gn E E E (gu E E E (gu E E E (gu E E E (gn E E E (r (pk E E) (re (cf E (sk (be ?_)))))))))))
           refine gen (fun ρ=>ρ 0 = v∧ρ 3 = o1∧ρ 4=.int .i64 aq∧ρ 5=.int .i64 mz∧ρ 6=.int .i64 (j : Int)∧ρ 7=.int .i64 (f : Int)∧ρ 8=.int .i64 (i : Int)∧True) ⟨z0,z3,z4,z5,z6,z7,z8,trivial⟩ ?_
           rintro ρ ⟨z0, z3, z4, z5, z6, z7, z8, -⟩
           refine rg (r (mv z8) (r (ad (a := (i : Int)) (b := 1) ((i : Int) + 1) E E (by omega)) (r (sa E) (re ?_))))
           exact ag (i + 1) ⟨z0,z3,z4,z5,z6,z7,E,H4,by omega⟩ (by first | omega | (dsimp only; omega))
         ·refine gn E E E (gn E E E (gn E E E (gn E E E (gn E E E (r (pk E E) (r (mv E) (gn E E E (gn E E E (gn E E E (gu E E E (gu E E E (gu E E E (gn E E E (r (pk E E) (re (cf E (sk (be ?_))))))))))))))))))
          refine gen (fun ρ=>ρ 0 = v∧ρ 3 = o1∧ρ 4=.int .i64 aq∧ρ 5=.int .i64 mz∧ρ 6=.int .i64 (j : Int)∧ρ 7=.int .i64 (f : Int)∧ρ 8=.int .i64 (i : Int)∧True) ⟨z0,z3,z4,z5,z6,z7,z8,trivial⟩ ?_
          rintro ρ ⟨z0, z3, z4, z5, z6, z7, z8, -⟩
          refine rg (r (mv z8) (r (ad (a := (i : Int)) (b := 1) ((i : Int) + 1) E E (by omega)) (r (sa E) (re ?_))))
          exact ag (i + 1) ⟨z0,z3,z4,z5,z6,z7,E,H4,by omega⟩ (by first | omega | (dsimp only; omega))
       ·refine gn E E E (gn E E E (gn E E E (gn E E E (gn E E E (r (pk E E) (r (mv E) (gn E E E (gn E E E (gn E E E (gn E E E (gn E E E (gn E E E (r (pk E E) (r (mv E) (gn E E E (gn E E E (gn E E E (r (pk E E) (re (cf E (sk (sq ?_))))))))))))))))))))))
        refine gen (fun ρ=>ρ 0 = v∧ρ 3 = o1∧ρ 4=.int .i64 aq∧ρ 5=.int .i64 mz∧ρ 6=.int .i64 (j : Int)∧ρ 7=.int .i64 (f : Int)∧ρ 8=.int .i64 (i : Int)∧True) ⟨y0,y3,y4,y5,y6,y7,y8,trivial⟩ ?_
        rintro ρ ⟨z0, z3, z4, z5, z6, z7, z8, -⟩
        refine rg (r (mv z8) (r (mv z4) (r (bi E E E) (r (mv E) ?_))))
        refine spn 149 E (fun k137 => ?_) (fun k137 => ?_)
        ·refine gy E E E (r (mv z3) (gy E E E (r (mv z8) (gy E E E ?_))))
         obtain ⟨c152_8, ad152_8, k152_8, e152_8, p152_8⟩ := Kd.R.place R7 i (hi')
         refine r (ix (j := i) Try.underlying22 ti2 e152_8 E (hi')) (gy E E E (r (ld Try.underlying2 E E p152_8.cell) (gy E E E (r (bi E E E) (r (pk E E) (r (mv E) ?_))))))
         refine sp 156 E (fun k138 => ?_) (fun k138 => ?_)
         ·refine gy E E E (r (mv z7) (gy E E E (r (bi E E E) (gy E E E (r (mv E) ?_)))))
          refine spf 159 E (show (decide ((f : Int) < 0)) = false from (decide_eq_false (by omega))) ?_
          refine gy E E E (r (mv z8) (gy E E E (r (mv z7) (gy E E E (r (bi E E E) (gy E E E (r (pk E E) (r (pk E E) (re ?_)))))))))
          refine cf ((E : _ = Value.bool (decide ((i : Int) < (f : Int)))).trans (congrArg Value.bool (show (decide ((i : Int) < (f : Int))) = false from (decide_eq_false (by omega))))) ?_
          refine sk (be ?_)
          refine gen (fun ρ=>ρ 0 = v∧ρ 3 = o1∧ρ 4=.int .i64 aq∧ρ 5=.int .i64 mz∧ρ 6=.int .i64 (j : Int)∧ρ 7=.int .i64 (f : Int)∧ρ 8=.int .i64 (i : Int)∧True) ⟨z0,z3,z4,z5,z6,z7,z8,trivial⟩ ?_
          rintro ρ ⟨z0, z3, z4, z5, z6, z7, z8, -⟩
          refine rg (r (mv z8) (r (ad (a := (i : Int)) (b := 1) ((i : Int) + 1) E E (by omega)) (r (sa E) (re ?_))))
          exact ag (i + 1) ⟨z0,z3,z4,z5,z6,z7,E,H4,by omega⟩ (by first | omega | (dsimp only; omega))
         ·refine gn E E E (gn E E E (gn E E E (gu E E E (gu E E E (gu E E E (gn E E E (r (pk E E) (re (cf E (sk (be ?_)))))))))))
          refine gen (fun ρ=>ρ 0 = v∧ρ 3 = o1∧ρ 4=.int .i64 aq∧ρ 5=.int .i64 mz∧ρ 6=.int .i64 (j : Int)∧ρ 7=.int .i64 (f : Int)∧ρ 8=.int .i64 (i : Int)∧True) ⟨z0,z3,z4,z5,z6,z7,z8,trivial⟩ ?_
          rintro ρ ⟨z0, z3, z4, z5, z6, z7, z8, -⟩
          refine rg (r (mv z8) (r (ad (a := (i : Int)) (b := 1) ((i : Int) + 1) E E (by omega)) (r (sa E) (re ?_))))
          exact ag (i + 1) ⟨z0,z3,z4,z5,z6,z7,E,H4,by omega⟩ (by first | omega | (dsimp only; omega))
        ·refine gn E E E (gn E E E (gn E E E (gn E E E (gn E E E (r (pk E E) (r (mv E) (gn E E E (gn E E E (gn E E E (gu E E E (gu E E E (gu E E E (gn E E E (r (pk E E) (re (cf E (sk (be ?_))))))))))))))))))
         refine gen (fun ρ=>ρ 0 = v∧ρ 3 = o1∧ρ 4=.int .i64 aq∧ρ 5=.int .i64 mz∧ρ 6=.int .i64 (j : Int)∧ρ 7=.int .i64 (f : Int)∧ρ 8=.int .i64 (i : Int)∧True) ⟨z0,z3,z4,z5,z6,z7,z8,trivial⟩ ?_
         rintro ρ ⟨z0, z3, z4, z5, z6, z7, z8, -⟩
         refine rg (r (mv z8) (r (ad (a := (i : Int)) (b := 1) ((i : Int) + 1) E E (by omega)) (r (sa E) (re ?_))))
         exact ag (i + 1) ⟨z0,z3,z4,z5,z6,z7,E,H4,by omega⟩ (by first | omega | (dsimp only; omega))
      ·refine ex E (sq (rg (r (mv y0) (cl go55 (DrawFreeLids (hx.t (Hold.ch H4)) lv ok) (ac E an) ?_))))
       rintro rtv wd2 ⟨t, nn, o2, rfl, ht, Hd2⟩
       have H5 : Hold w [] wd2 [rR i64 2 o1 cs, rR kE 70 o2 t] := Hold.news H4 Hd2
       clear H4
       clear Hd2
       refine r (mv E) (r (xt E E) (r (xt E E) (r (sa E) (r (sa E) (re (sq ?_))))))
       refine gen (fun ρ=>ρ 9 = o2∧ρ 10=.int .i64 nn∧True) ⟨E,E,trivial⟩ ?_
       rintro ρ ⟨z9, z10, -⟩
       obtain ⟨_, R10⟩ : ∃ F, Kd.R kE wd2 F o2 t := Hold.row H5 1 rfl
       refine rg (r (mv z9) (r (mv z10) (cl go47 (impl_FreeLids R10 (by omega)) (ac E (ac E an)) ?_)))
       rintro rfl_ wfl ⟨efl, Hfl⟩
       have H6 : Hold w [] wfl [rR i64 2 o1 cs, rR kE 70 o2 t, rR i64 efl rfl_ (flD t nn)] := Hold.news H5 Hfl
       clear H5
       clear Hfl
       refine r (sa E) (re (sq (rg (r (sa E) (re (sq (sq (rg (r (sa E) (re (bl ?_)))))))))))
       refine lp (α := Nat) (fun i ρ w' => ρ 9 = o2∧ρ 10=.int .i64 nn∧ρ 11 = rfl_∧ρ 12=.int .i64 ((freeN t i).length : Int)∧ρ 13=.int .i64 (i : Int)∧Hold w [] w' [rR i64 2 o1 cs,rR kE 70 o2 t,rR i64 efl rfl_ (flD t nn)]∧i ≤ t.length) (fun i => t.length - i) 0 ?_ ?_
       ·exact ⟨z9,z10,E,E,E,H6,by omega⟩
       clear H6
       rintro i ρ w507 ⟨y9, y10, y11, y12, y13, H7, hi2⟩
       obtain ⟨_, R11⟩ : ∃ F, Kd.R kE w507 F o2 t := Hold.row H7 1 rfl
       refine sq (sq (rg (r (mv y13) (r (mv y9) (r (ln Try.underlying57 E (R11)) (r (bi E E E) (re ?_)))))))
       refine cp E (fun hlt2 => ?_) (fun hlt2 => ?_)
       ·have hi3 : i < t.length := by omega
        have hfl := freeN_len t i
        refine sk (sq (bl (sq (rg (r (mv y9) (r (mv y13) ?_))))))
        obtain ⟨c181_12, ad181_12, k181_12, e181_12, p181_12⟩ := Kd.R.place R11 i (hi3)
        have q181_12 := en_at p181_12
        refine r (ix (j := i) Try.underlying57 ti70 e181_12 E (hi3)) (r (fa' Try.underlying70 E ti2 E E) (r (ld Try.underlying2 E E (q181_12 0 _ E)) (r (bi E E E) (re ?_))))
        refine cp E (fun hz => ?_) (fun hz => ?_)
        ·refine gen (fun ρ=>ρ 9 = o2∧ρ 10=.int .i64 nn∧ρ 11 = rfl_∧ρ 12=.int .i64 ((freeN t i).length : Int)∧ρ 13=.int .i64 (i : Int)∧True) ⟨y9,y10,y11,y12,y13,trivial⟩ ?_
         rintro ρ ⟨z9, z10, z11, z12, z13, -⟩
         refine rg (r (mv z12) (r (ad (a := ((freeN t i).length : Int)) (b := 1) (((freeN t (i + 1)).length : Int)) E E (by rw [freeN_yes hi3 hz]; simp; omega)) (r (sa E) (re (be (rg (r (mv z13) (r (ad (a := (i : Int)) (b := 1) ((i : Int) + 1) E E (by omega)) (r (sa E) (re ?_))))))))))
         exact ag (i + 1) ⟨z9,z10,z11,E,E,H7,by omega⟩ (by first | omega | (dsimp only; omega))
        ·refine sk (be ?_)
         refine gen (fun ρ=>ρ 9 = o2∧ρ 10=.int .i64 nn∧ρ 11 = rfl_∧ρ 12=.int .i64 ((freeN t i).length : Int)∧ρ 13=.int .i64 (i : Int)∧True) ⟨y9,y10,y11,y12,y13,trivial⟩ ?_
         rintro ρ ⟨z9, z10, z11, z12, z13, -⟩
         refine rg (r (mv z13) (r (ad (a := (i : Int)) (b := 1) ((i : Int) + 1) E E (by omega)) (r (sa E) (re ?_))))
         rw [← freeN_no hi3 hz] at z12
         exact ag (i + 1) ⟨z9,z10,z11,z12,E,H7,by omega⟩ (by first | omega | (dsimp only; omega))
       ·obtain rfl : i = t.length := by omega
        refine ex E (sq (sq (rg (r (mv y10) (r (bi E E E) (r (mv E) ?_))))))
        refine sp 189 E (fun hn1 => ?_) (fun hn1 => ?_)
        ·refine gn E E E (gn E E E (gn E E E (r (pk E E) (re (ct E (sq ?_))))))
         refine gen (fun ρ=>ρ 9 = o2∧ρ 10=.int .i64 nn∧ρ 11 = rfl_∧True) ⟨y9,y10,y11,trivial⟩ ?_
         rintro ρ ⟨z9, z10, z11, -⟩
         obtain ⟨_, R12⟩ : ∃ F, Kd.R i64 w507 F rfl_ (flD t nn) := Hold.row H7 2 rfl
         refine rg (r (mv z11) (r (ln Try.underlying22 E (R12)) (r (bi E E E) (r (sa E) (re (rt ?_))))))
         exact fin1 (v := .bool (decide (((flD t nn).length : Int) = 0))) Try.results10 E ⟨congrArg Value.bool (by rw [flD_nil (.inl hn1)]; simp),Hold.ch H7⟩
        ·refine gy E E E (r (mv y10) (gy E E E (r (mv y12) (gy E E E (r (bi E E E) (r (pk E E) (re ?_)))))))
         refine cp E (fun hn2 => ?_) (fun hn2 => ?_)
         ·refine sq ?_
          refine gen (fun ρ=>ρ 9 = o2∧ρ 10=.int .i64 nn∧ρ 11 = rfl_∧True) ⟨y9,y10,y11,trivial⟩ ?_
          rintro ρ ⟨z9, z10, z11, -⟩
          obtain ⟨_, R12⟩ : ∃ F, Kd.R i64 w507 F rfl_ (flD t nn) := Hold.row H7 2 rfl
          refine rg (r (mv z11) (r (ln Try.underlying22 E (R12)) (r (bi E E E) (r (sa E) (re (rt ?_))))))
          exact fin1 (v := .bool (decide (((flD t nn).length : Int) = 0))) Try.results10 E ⟨congrArg Value.bool (by rw [flD_nil (.inr (by omega))]; simp),Hold.ch H7⟩
         ·obtain ⟨hF1, hF2⟩ := flD_full (t := t) (n := nn) (by omega) (by omega)
          refine sk (sq (sq ?_))
          refine gen (fun ρ=>ρ 9 = o2∧ρ 10=.int .i64 nn∧ρ 11 = rfl_∧True) ⟨y9,y10,y11,trivial⟩ ?_
          rintro ρ ⟨z9, z10, z11, -⟩
          obtain ⟨_, R12⟩ : ∃ F, Kd.R i64 w507 F rfl_ (flD t nn) := Hold.row H7 2 rfl
          refine rg (r (mv z11) (r (ln Try.underlying22 E (R12)) (r (mv z10) (r (bi E E E) (re ?_)))))
          refine cf ((E : _ = Value.bool (!decide (((flD t nn).length : Int) = nn))).trans (congrArg Value.bool (show (!decide (((flD t nn).length : Int) = nn)) = false from (by rw [decide_eq_true hF1]; rfl)))) ?_
          refine sk (sq (rg (r (sa E) (re (sq (sq (rg (r (sa E) (re (bl ?_))))))))))
          refine lp (α := Nat) (fun i ρ w' => ρ 9 = o2∧ρ 10=.int .i64 nn∧ρ 11 = rfl_∧ρ 14=.int .i64 ((freeN t i).length : Int)∧ρ 15=.int .i64 (i : Int)∧Hold w [] w' [rR i64 2 o1 cs,rR kE 70 o2 t,rR i64 efl rfl_ (flD t nn)]∧i ≤ t.length) (fun i => t.length - i) 0 ?_ ?_
          ·exact ⟨z9,z10,z11,E,E,H7,by omega⟩
          clear H7
          rintro i ρ w508 ⟨y9, y10, y11, y14, y15, H8, hi2⟩
          obtain ⟨_, R13⟩ : ∃ F, Kd.R kE w508 F o2 t := Hold.row H8 1 rfl
          refine sq (sq (rg (r (mv y15) (r (mv y9) (r (ln Try.underlying57 E (R13)) (r (bi E E E) (r (mv E) ?_)))))))
          refine sp 205 E (fun hm1 => ?_) (fun hm1 => ?_)
          ·refine gy E E E (r (mv y14) (gy E E E (r (mv y10) (gy E E E (r (bi E E E) (r (pk E E) (re ?_)))))))
           refine cp E (fun hm2 => ?_) (fun hm2 => ?_)
           ·have hi3 : i < t.length := by omega
            have hfl := freeN_len t i
            refine sk (sq (bl (sq (rg (r (mv y9) (r (mv y15) ?_))))))
            obtain ⟨c214_14, ad214_14, k214_14, e214_14, p214_14⟩ := Kd.R.place R13 i (hi3)
            have q214_14 := en_at p214_14
            refine r (ix (j := i) Try.underlying57 ti70 e214_14 E (hi3)) (r (fa' Try.underlying70 E ti2 E E) (r (ld Try.underlying2 E E (q214_14 0 _ E)) (r (bi E E E) (re ?_))))
            refine cp E (fun hz => ?_) (fun hz => ?_)
            ·have hkl : (freeN t i).length < (flD t nn).length := by omega
             have hAt : (flD t nn)[(freeN t i).length] = (i : Int) + 1 := by
              have h9 := (hF2 _ hm2).trans (freeN_at hi3 hz)
              rw [List.getElem?_eq_getElem hkl] at h9; exact Option.some.inj h9
             obtain ⟨kk, hkk⟩ : ∃ k, k = (freeN t i).length := ⟨_, rfl⟩
             refine sq (sq ?_)
             refine gen (fun ρ=>ρ 9 = o2∧ρ 10=.int .i64 nn∧ρ 11 = rfl_∧ρ 14=.int .i64 ((freeN t i).length : Int)∧ρ 15=.int .i64 (i : Int)∧True) ⟨y9,y10,y11,y14,y15,trivial⟩ ?_
             rintro ρ ⟨z9, z10, z11, z14, z15, -⟩
             obtain ⟨_, R15⟩ : ∃ F, Kd.R i64 w508 F rfl_ (flD t nn) := Hold.row H8 2 rfl
             refine rg (r (mv z11) (r (mv z14) ?_))
             obtain ⟨c220_16, ad220_16, k220_16, e220_16, p220_16⟩ := Kd.R.place R15 ((freeN t i).length) (hkl)
             refine r (ix (j := (freeN t i).length) Try.underlying22 ti2 e220_16 E (hkl)) (r (ld Try.underlying2 E E p220_16.cell) (r (mv z15) (r (ad (a := (i : Int)) (b := 1) ((i : Int) + 1) E E (by omega)) (r (bi E E E) (re ?_)))))
             refine cf ((E : _ = Value.bool (!decide (((flD t nn)[(freeN t i).length]) = ((i : Int) + 1)))).trans (congrArg Value.bool (show (!decide (((flD t nn)[(freeN t i).length]) = ((i : Int) + 1))) = false from (by rw [decide_eq_true hAt]; rfl)))) ?_
             refine sk (rg (r (mv z14) (r (ad (a := ((freeN t i).length : Int)) (b := 1) (((freeN t (i + 1)).length : Int)) E E (by rw [freeN_yes hi3 hz]; simp; omega)) (r (sa E) (re (be ?_))))))
             refine gen (fun ρ=>ρ 9 = o2∧ρ 10=.int .i64 nn∧ρ 11 = rfl_∧ρ 14=.int .i64 ((freeN t (i + 1)).length : Int)∧ρ 15=.int .i64 (i : Int)∧True) ⟨z9,z10,z11,E,z15,trivial⟩ ?_
             rintro ρ ⟨z9, z10, z11, z14, z15, -⟩
             refine rg (r (mv z15) (r (ad (a := (i : Int)) (b := 1) ((i : Int) + 1) E E (by omega)) (r (sa E) (re ?_))))
             exact ag (i + 1) ⟨z9,z10,z11,z14,E,H8,by omega⟩ (by first | omega | (dsimp only; omega))
            ·refine sk (be ?_)
             refine gen (fun ρ=>ρ 9 = o2∧ρ 10=.int .i64 nn∧ρ 11 = rfl_∧ρ 14=.int .i64 ((freeN t i).length : Int)∧ρ 15=.int .i64 (i : Int)∧True) ⟨y9,y10,y11,y14,y15,trivial⟩ ?_
             rintro ρ ⟨z9, z10, z11, z14, z15, -⟩
             refine rg (r (mv z15) (r (ad (a := (i : Int)) (b := 1) ((i : Int) + 1) E E (by omega)) (r (sa E) (re ?_))))
             rw [← freeN_no hi3 hz] at z14
             exact ag (i + 1) ⟨z9,z10,z11,z14,E,H8,by omega⟩ (by first | omega | (dsimp only; omega))
           ·refine ex E (sq (rg (r (sa E) (re (rt ?_)))))
            exact fin1 (v := .bool true) Try.results10 E ⟨E,Hold.ch H8⟩
          ·refine gn E E E (gn E E E (gn E E E (r (pk E E) (re (cf E (ex E (sq (rg (r (sa E) (re (rt ?_)))))))))))
           exact fin1 (v := .bool true) Try.results10 E ⟨E,Hold.ch H8⟩
end Go.Proofs.Ytgpcanjmgdmdhaa
