/-
  CONTRACTS 14: marks of rows of numbers. No condition.
-/
import Derived.Test.YtgpcanjmgdmdhaaDoor13
namespace Go.Proofs.YtgpcanjmgdmdhaaDoor
open Go Go.Eng
set_option maxRecDepth 100000
set_option maxHeartbeats 4000000
set_option linter.unusedVariables false
def marks8 (k : Int) (n : Nat) : List Int := (List.range n).map (fun i : Nat => k + (i : Int))
theorem marks8_len (k : Int) (n : Nat) : (marks8 k n).length = n := by simp [marks8]
theorem marks8_get (k : Int) (n i : Nat) (h : i < (marks8 k n).length) : (marks8 k n)[i] = k + (i : Int) := by simp [marks8]
theorem marks8_set {xs : List Int} {k : Int} {i : Nat} (hi : i < xs.length) : (marks8 k i ++ xs.drop i).set i (k + (i : Int)) = marks8 k (i + 1) ++ xs.drop (i + 1) := by
  rw [List.set_append_right _ _ (by rw [marks8_len]; exact Nat.le_refl _), marks8_len, Nat.sub_self, List.drop_eq_getElem_cons hi, List.set_cons_zero]
  simp [marks8, List.range_succ]
theorem markInt64S {w : World} {F : List Nat} {v : Value} {xs : List Int} {k : Int} {e : TypeId} (hW : i64.W e w F v xs) (hn : F.Nodup) (hk : 0 ≤ k ∧ k ≤ 1000000000000) (lx : xs.length ≤ 1000000000) :
    Ret Tryd.prog 82 #[v, .int .i64 k] w (fun r w' => r = .int .i64 (k + xs.length) ∧ ∃ F', Apd i64 e w w' F [] F' v v (marks8 k xs.length)) := by
  refine enter Tryd.func82 rfl Tryd.ntmps82 (by rfl) (by rfl) ?_
  refine sq (rg (r (sa rfl) (re (sq (sq (rg (r (sa rfl) (re (bl ?_)))))))))
  refine lp (α := Nat × List Nat) (fun (i, G) ρ w' => ρ 0 = v ∧ ρ 1 = .int .i64 (k + (i : Int)) ∧ ρ 5 = .int .i64 (i : Int) ∧ i ≤ xs.length ∧ Apd i64 e w w' F [] G v v (marks8 k i ++ xs.drop i)) (fun (i, G) => xs.length - i) (0, F) ?_ ?_
  · exact ⟨rfl, (show _ = Value.int .i64 k from rfl).trans (by simp), rfl, ⟨by omega, Apd.refl hW hn⟩⟩
  rintro ⟨i, G⟩ ρ w' ⟨y0, y1, y5, hi, A⟩
  have hl : (marks8 k i ++ xs.drop i).length = xs.length := by simp [marks8_len]; omega
  refine sq (sq (rg (r (mv y5) (r (mv y0) (r (ln Tryd.underlying23 rfl (A.W.R)) (r (bi rfl rfl rfl) (re ?_)))))))
  refine cp rfl (fun h => ?_) (fun h => ?_)
  · rw [hl] at h
    have hi' : i < xs.length := by omega
    refine sk (sq (bl (sq (rg (r (mv y0) (r (mv y5) (r (mv y1) (ixs (a := k + (i : Int)) Tryd.underlying23 ti2 rfl A.W rfl (by rw [hl]; exact hi') (fun _ => rfl) ⟨rfl, rfl⟩ (nodup_nil A.nd) ?_))))))))
    intro _ ws Fs ss As
    refine re (rg (r (mv y1) (r (ad (k + ((i + 1 : Nat) : Int)) rfl rfl (by omega)) (r (sa rfl) (re (be (rg (r (mv y5) (r (ad (((i + 1 : Nat) : Int)) rfl rfl (by omega)) (r (sa rfl) (re ?_)))))))))))
    rw [marks8_set hi'] at As
    exact ag (i + 1, Fs) ⟨y0, rfl, rfl, ⟨by omega, A.tr As⟩⟩ (by first | omega | (dsimp only; omega))
  · rw [hl] at h
    obtain rfl : i = xs.length := by omega
    refine ex rfl (sq (rg (r (mv y1) (r (sa rfl) (re (rt ?_))))))
    exact fin1 (v := .int .i64 (k + xs.length)) Tryd.results82 rfl ⟨rfl, G, by simpa using A⟩
theorem heldInt64S {w : World} {F : List Nat} {v : Value} {n : Nat} {k : Int} (hx : i64.R w F v (marks8 k n)) (hk : 0 ≤ k ∧ k ≤ 1000000000000) (hln : n ≤ 1000000000) :
    Ret Tryd.prog 83 #[v, .int .i64 k] w (fun r w' => r = .int .i64 (k + n) ∧ Ch [] w w') := by
  refine enter Tryd.func83 rfl Tryd.ntmps83 (by rfl) (by rfl) ?_
  have hl := marks8_len k n
  refine sq (rg (r (sa rfl) (re (sq (sq (rg (r (sa rfl) (re (bl ?_)))))))))
  refine lp (α := Nat) (fun i ρ w' => ρ 0 = v ∧ ρ 1 = .int .i64 (k + (i : Int)) ∧ ρ 5 = .int .i64 (i : Int) ∧ Ch [] w w' ∧ i ≤ n) (fun i => n - i) 0 ?_ ?_
  · exact ⟨rfl, (show _ = Value.int .i64 k from rfl).trans (by simp), rfl, (Ch.refl [] w), by omega⟩
  rintro i ρ w' ⟨y0, y1, y5, hc, hi⟩
  refine sq (sq (rg (r (mv y5) (r (mv y0) (r (ln Tryd.underlying23 rfl ((hx.t hc))) (r (bi rfl rfl rfl) (re ?_)))))))
  refine cp rfl (fun h => ?_) (fun h => ?_)
  · have hi' : i < (marks8 k n).length := by omega
    refine sk (sq (bl (sq (sq (rg (r (mv y0) (r (mv y5) ?_)))))))
    obtain ⟨c14, ad14, k14, e14, p14⟩ := (hx).place i (by omega)
    refine r (ix Tryd.underlying23 ti2 e14 rfl (by omega)) (r (ld Tryd.underlying2 rfl rfl (Ch.cell hc p14.cell)) (r (mv y1) (r (bi rfl rfl rfl) (re ?_))))
    refine cpn rfl (fun hne => ?_) (fun hne => ?_)
    · exact absurd (marks8_get k n i hi') hne
    · refine sk ?_
      refine gen (fun ρ => ρ 0 = v ∧ ρ 1 = .int .i64 (k + (i : Int)) ∧ ρ 5 = .int .i64 (i : Int) ∧ True) ⟨y0, y1, y5, trivial⟩ ?_
      rintro ρ ⟨z0, z1, z5, -⟩
      refine rg (r (mv z1) (r (ad (k + ((i + 1 : Nat) : Int)) rfl rfl (by omega)) (r (sa rfl) (re (be (rg (r (mv z5) (r (ad (((i + 1 : Nat) : Int)) rfl rfl (by omega)) (r (sa rfl) (re ?_))))))))))
      exact ag (i + 1) ⟨z0, rfl, rfl, hc, by omega⟩ (by first | omega | (dsimp only; omega))
  · obtain rfl : i = n := by omega
    refine ex rfl (sq (rg (r (mv y1) (r (sa rfl) (re (rt ?_))))))
    exact fin1 (v := .int .i64 (k + (i : Int))) Tryd.results83 rfl ⟨rfl, hc⟩
end Go.Proofs.YtgpcanjmgdmdhaaDoor
