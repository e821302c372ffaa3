/-
  THE LAWS' WALKS: FreeSegment, PickVictim. No condition.
-/
import Derived.Test.Ytgpcanjmgdmdhaa3
namespace Go.Proofs.Ytgpcanjmgdmdhaa
open Go Go.Eng
set_option maxRecDepth 100000
set_option linter.unusedVariables false
theorem w_FnExactFreeSegment {w : World} {F : List Nat} {v : Value} {xs : List Int} {a : Int} (hx : i64.R w F v xs) :
    Ret Try.prog 3 #[v, .int .i64 a] w (fun r w' => r = .bool true ∧ Ch [] w w') := by
  refine enter Try.func3 rfl Try.ntmps3 (by rfl) (by rfl) ?_
  refine sq (rg (r (sa rfl) (re (sq (sq (rg (r (mv rfl) (r (ln Try.underlying22 rfl (hx)) (r (bi rfl rfl rfl) (re ?_))))))))))
  refine cp rfl (fun h => ?_) (fun h => ?_)
  · refine sq (rg (r (sa rfl) (re (rt ?_))))
    exact fin1 (v := .bool true) Try.results3 rfl ⟨rfl, Ch.refl _ _⟩
  · have lx : xs.length ≤ 1000000000 := by omega
    refine sk (sq (rg (r (mv rfl) (cl go24 (toInt64S hx lx) (ac rfl an) ?_))))
    rintro r1 w1 ⟨⟨F1, W1, n1, f1⟩, c1⟩
    refine r (mv rfl) (cl go23 (spec_FreeSegment W1.R lx) (ac rfl (ac rfl an)) ?_)
    rintro r2 w2 ⟨rfl, c2⟩
    refine r (sa rfl) (re (sq (rg (r (mv rfl) (cl go24 (toInt64S (hx.t (c1.t c2)) lx) (ac rfl an) ?_)))))
    rintro x0 w3 ⟨⟨F3, W3, n3, f3⟩, c3⟩
    refine r (sa rfl) (re (sq (rg (r (mv rfl) (r (mv rfl) (cl go25 (impl_FreeSegment W3.R lx) (ac rfl (ac rfl an)) ?_))))))
    rintro r4 w4 ⟨rfl, c4⟩
    refine r (sa rfl) (re (sq (sq (rg (r (mv rfl) (r (mv rfl) (r (bi rfl rfl rfl) (re ?_))))))))
    have c14 := (c1.t c2).t (c3.t c4)
    refine cf (by show Value.bool (!decide (_ = _)) = _; rw [decide_eq_true (numb_free a xs)]; rfl) ?_
    refine sk (sq (sq (rg (r (mv rfl) (r (mv rfl) (cl go24 (toInt64S (hx.t c14) lx) (ac rfl an) ?_))))))
    rintro r5 w5 ⟨⟨F5, W5, n5, f5⟩, c5⟩
    refine cl go26 (eqInt64S ((W3.R.t c4).t c5) W5.R lx) (ac rfl (ac rfl an)) ?_
    rintro r6 w6 ⟨rfl, c6⟩
    refine r (nt rfl) (re ?_)
    refine cf (by show Value.bool (!decide (_ = _)) = _; rw [decide_eq_true rfl]; rfl) ?_
    refine sk (sq (rg (r (sa rfl) (re (rt ?_)))))
    exact fin1 (v := .bool true) Try.results3 rfl ⟨rfl, (c14.t c5).t c6⟩
theorem w_FnExactPickVictim {w : World} {F : List Nat} {v : Value} {xs : List Int} {a m : Int} (hx : i64.R w F v xs) :
    Ret Try.prog 4 #[v, .int .i64 a, .int .i64 m] w (fun r w' => r = .bool true ∧ Ch [] w w') := by
  refine enter Try.func4 rfl Try.ntmps4 (by rfl) (by rfl) ?_
  refine sq (rg (r (sa rfl) (re (sq (sq (rg (r (mv rfl) (r (ln Try.underlying22 rfl (hx)) (r (bi rfl rfl rfl) (re ?_))))))))))
  refine cp rfl (fun h => ?_) (fun h => ?_)
  · refine sq (rg (r (sa rfl) (re (rt ?_))))
    exact fin1 (v := .bool true) Try.results4 rfl ⟨rfl, Ch.refl _ _⟩
  · have lx : xs.length ≤ 1000000000 := by omega
    refine sk (sq (rg (r (mv rfl) (cl go24 (toInt64S hx lx) (ac rfl an) ?_))))
    rintro r1 w1 ⟨⟨F1, W1, n1, f1⟩, c1⟩
    refine r (mv rfl) (r (mv rfl) (cl go27 (spec_PickVictim W1.R lx) (ac rfl (ac rfl (ac rfl an))) ?_))
    rintro r2 w2 ⟨rfl, c2⟩
    refine r (sa rfl) (re (sq (rg (r (mv rfl) (cl go24 (toInt64S (hx.t (c1.t c2)) lx) (ac rfl an) ?_)))))
    rintro x0 w3 ⟨⟨F3, W3, n3, f3⟩, c3⟩
    refine r (sa rfl) (re (sq (rg (r (mv rfl) (r (mv rfl) (r (mv rfl) (cl go28 (impl_PickVictim W3.R lx) (ac rfl (ac rfl (ac rfl an))) ?_)))))))
    rintro r4 w4 ⟨rfl, c4⟩
    refine r (sa rfl) (re (sq (sq (rg (r (mv rfl) (r (mv rfl) (r (bi rfl rfl rfl) (re ?_))))))))
    have c14 := (c1.t c2).t (c3.t c4)
    refine cf (by show Value.bool (!decide (_ = _)) = _; rw [decide_eq_true rfl]; rfl) ?_
    refine sk (sq (sq (rg (r (mv rfl) (r (mv rfl) (cl go24 (toInt64S (hx.t c14) lx) (ac rfl an) ?_))))))
    rintro r5 w5 ⟨⟨F5, W5, n5, f5⟩, c5⟩
    refine cl go26 (eqInt64S ((W3.R.t c4).t c5) W5.R lx) (ac rfl (ac rfl an)) ?_
    rintro r6 w6 ⟨rfl, c6⟩
    refine r (nt rfl) (re ?_)
    refine cf (by show Value.bool (!decide (_ = _)) = _; rw [decide_eq_true rfl]; rfl) ?_
    refine sk (sq (rg (r (sa rfl) (re (rt ?_)))))
    exact fin1 (v := .bool true) Try.results4 rfl ⟨rfl, (c14.t c5).t c6⟩
end Go.Proofs.Ytgpcanjmgdmdhaa
