/-
  THE LAW'S WALK: EncodeInode. No condition.
-/
import Derived.Test.YtgpcanjmgdmdhaaDoor34
namespace Go.Proofs.YtgpcanjmgdmdhaaDoor
open Go Go.Eng
set_option maxRecDepth 100000
set_option maxHeartbeats 4000000
set_option linter.unusedVariables false
set_option linter.unusedSimpArgs false
theorem ok8_wf {xs : List Int} (h : ∀ x, x ∈ xs → (Lit.int .u8 x).wf = true) : ok8 xs := fun x hx => by
  have := h x hx
  simp [Lit.wf, IntKind.min, IntKind.max, IntKind.signed, IntKind.bits] at this
  omega
theorem encIno_len {nm : List Int} {z : Int} {xs : List Int} : (encIno nm z xs).length ≤ 64 := by
  unfold encIno; split
  · rename_i h; rw [encI_len h]; omega
  · simp
theorem markInode_H {w : World} {F : List Nat} {s : ByteArray} {z : Int} {v : Value} {xs : List Int} {k : Int} {e : TypeId} (h : Hs w [rR i64 e v xs] F) (n : F.Nodup) (hk : 0 ≤ k ∧ k ≤ 1000000000) (lx : xs.length ≤ 1000000000) :
    Ret Tryd.prog 49 #[.agg #[.string s, .int .i64 z, v], .int .i64 k] w (fun r w' => r = .int .i64 (k + xs.length) ∧ Hold w F w' [rR i64 e v (marks8 k xs.length)]) := by
  refine enter Tryd.func49 rfl Tryd.ntmps49 (by rfl) (by rfl) ?_
  have H0 : Hold w F w [rR i64 e v xs] := Hold.begin h n
  refine sq (rg (ef (xbx (t := 25) rfl rfl) ?_))
  rintro _ w1 ⟨g2, e1, rfl, -, b1, c1⟩
  have H1 : Hold w F w1 [rR i64 e v xs, rB g2 25 ([.string s, .int .i64 z, v])] := Hold.newB H0 e1 b1 c1
  clear H0
  clear e1 b1 c1
  have b2 : B w1 g2 25 ([.string s, .int .i64 z, v]) := Hold.blk H1 1 rfl
  obtain ⟨F4, hF4, n4, s4, K4⟩ := Hold.front (Γ := [rR i64 e v xs]) (Δ := [rB g2 25 ([.string s, .int .i64 z, v])]) H1
  refine r (sa rfl) (re (sq (rg (r (fa Tryd.underlying25 rfl ti23 rfl rfl) (r (ldb Tryd.underlying23 rfl rfl b2 rfl) (r (mv rfl) (cl go82 (markInt64S_H hF4 n4 (by omega) (by first | assumption | omega | (simp; omega))) (ac rfl (ac rfl an)) ?_)))))))
  rintro r wm3 ⟨rfl, Hm3⟩
  have H2 : Hold w F wm3 [rR i64 e v (marks8 k xs.length), rB g2 25 ([.string s, .int .i64 z, v])] := Hold.call K4 Hm3
  clear H1
  clear K4 hF4 n4 s4
  clear Hm3
  refine r (sa rfl) (re (sq (rg (r (mv rfl) (r (sa rfl) (re (rt ?_)))))))
  have H3 : Hold w F wm3 [rR i64 e v (marks8 k xs.length)] := (show Hold w F wm3 ([rR i64 e v (marks8 k xs.length)] ++ [rB g2 25 ([.string s, .int .i64 z, v])]) from Hold.re H2 [0, 1] (by kernel_rfl) (by rfl)).drop
  clear H2
  exact fin1 (v := .int .i64 (k + (xs.length : Int))) Tryd.results49 rfl ⟨rfl, H3⟩
theorem eqInode {w : World} {F G : List Nat} {s t : ByteArray} {z y : Int} {v u : Value} {xs ys : List Int} (hx : i64.R w F v xs) (hy : i64.R w G u ys) (lx : xs.length ≤ 1000000000) : Ret Tryd.prog 48 #[.agg #[.string s, .int .i64 z, v], .agg #[.string t, .int .i64 y, u]] w (fun r w' => r = .bool (decide ((s, z, xs) = (t, y, ys))) ∧ Ch [] w w') := by
  refine enter Tryd.func48 rfl Tryd.ntmps48 (by rfl) (by rfl) ?_
  have H0 : Hold w [] w [] := Hold.start w
  refine sq (rg (ef (xbx (t := 25) rfl rfl) ?_))
  rintro _ w1 ⟨g2, e1, rfl, -, b1, c1⟩
  have H1 : Hold w [] w1 [rB g2 25 ([.string s, .int .i64 z, v])] := Hold.newB H0 e1 b1 c1
  clear H0
  clear e1 b1 c1
  refine ef (xbx (t := 25) rfl rfl) ?_
  rintro _ w2 ⟨g3, e2, rfl, -, b2, c2⟩
  have H2 : Hold w [] w2 [rB g2 25 ([.string s, .int .i64 z, v]), rB g3 25 ([.string t, .int .i64 y, u])] := Hold.newB H1 e2 b2 c2
  clear H1
  clear e2 b2 c2
  have b3 : B w2 g2 25 ([.string s, .int .i64 z, v]) := Hold.blk H2 0 rfl
  have b4 : B w2 g3 25 ([.string t, .int .i64 y, u]) := Hold.blk H2 1 rfl
  refine r (sa rfl) (re (sq (sq (rg (r (fa Tryd.underlying25 rfl ti9 rfl rfl) (r (ldb Tryd.underlying9 rfl rfl b3 rfl) (r (fa Tryd.underlying25 rfl ti9 rfl rfl) (r (ldb Tryd.underlying9 rfl rfl b4 rfl) (r (sne rfl rfl) (re ?_))))))))))
  refine cpn rfl (fun h1 => ?_) (fun h1 => ?_)
  · refine sq (rg (r (sa rfl) (re (rt ?_))))
    exact fin1 (v := .bool false) Tryd.results48 rfl ⟨congrArg Value.bool (decide_eq_false (fun e => h1 (by simp only [Prod.mk.injEq] at e; first | exact e.1 | exact e.2.1 | exact e.2.2))).symm, Hold.ch H2⟩
  · refine sk (sq (sq (rg (r (fa Tryd.underlying25 rfl ti2 rfl rfl) (r (ldb Tryd.underlying2 rfl rfl b3 rfl) (r (fa Tryd.underlying25 rfl ti2 rfl rfl) (r (ldb Tryd.underlying2 rfl rfl b4 rfl) (r (bi rfl rfl rfl) (re ?_)))))))))
    refine cpn rfl (fun h2 => ?_) (fun h2 => ?_)
    · refine sq ?_
      refine gen (fun ρ => ρ 2 = .pointer (some ⟨g2, 0, none⟩) ∧ ρ 3 = .pointer (some ⟨g3, 0, none⟩) ∧ ρ 4 = .bool false ∧ True) ⟨rfl, rfl, rfl, trivial⟩ ?_
      rintro ρ ⟨z2, z3, z4, -⟩
      refine rg (r (sa rfl) (re (rt ?_)))
      exact fin1 (v := .bool false) Tryd.results48 rfl ⟨congrArg Value.bool (decide_eq_false (fun e => h2 (by simp only [Prod.mk.injEq] at e; first | exact e.1 | exact e.2.1 | exact e.2.2))).symm, Hold.ch H2⟩
    · refine sk (sq (sq ?_))
      refine gen (fun ρ => ρ 2 = .pointer (some ⟨g2, 0, none⟩) ∧ ρ 3 = .pointer (some ⟨g3, 0, none⟩) ∧ ρ 4 = .bool false ∧ True) ⟨rfl, rfl, rfl, trivial⟩ ?_
      rintro ρ ⟨z2, z3, z4, -⟩
      refine rg (r (fa Tryd.underlying25 rfl ti23 rfl z2) (r (ldb Tryd.underlying23 rfl rfl b3 rfl) (r (fa Tryd.underlying25 rfl ti23 rfl z3) (r (ldb Tryd.underlying23 rfl rfl b4 rfl) (cl go81 (eqInt64S (hx.t (Hold.ch H2)) (hy.t (Hold.ch H2)) (by first | assumption | omega | (simp; omega))) (ac rfl (ac rfl an)) ?_)))))
      rintro r wq5 ⟨rfl, cq5⟩
      have H3 : Hold w [] wq5 [rB g2 25 ([.string s, .int .i64 z, v]), rB g3 25 ([.string t, .int .i64 y, u])] := Hold.t H2 cq5
      clear H2
      clear cq5
      refine r (nt rfl) (re ?_)
      refine cpn rfl (fun h3 => ?_) (fun h3 => ?_)
      · refine sq (rg (r (sa rfl) (re (rt ?_))))
        exact fin1 (v := .bool false) Tryd.results48 rfl ⟨congrArg Value.bool (decide_eq_false (fun e => h3 (by simp only [Prod.mk.injEq] at e; first | exact e.1 | exact e.2.1 | exact e.2.2))).symm, Hold.ch H3⟩
      · refine sk (sq (rg (r (sa rfl) (re (rt ?_)))))
        exact fin1 (v := .bool true) Tryd.results48 rfl ⟨congrArg Value.bool (decide_eq_true (by simp only [Prod.mk.injEq]; exact ⟨by simpa using h1, by simpa using h2, by simpa using h3⟩)).symm, Hold.ch H3⟩
end Go.Proofs.YtgpcanjmgdmdhaaDoor
