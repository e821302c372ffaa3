/-
  THE LAW'S WALK: EncodeInode. No condition.
-/
import Derived.Test.Ytgpcanjmgdmdhaa34
namespace Go.Proofs.Ytgpcanjmgdmdhaa
open Go Go.Eng
set_option maxRecDepth 100000
set_option maxHeartbeats 4000000
set_option linter.unusedVariables false
set_option linter.unusedSimpArgs false
theorem ok8_wf {xs : List Int} (h : ∀ x, x ∈ xs → (Lit.int .u8 x).wf = true) : ok8 xs := fun x hx => by
  have := h x hx
  simp [Lit.wf, IntKind.min, IntKind.max, IntKind.signed, IntKind.bits] at this
  omega
theorem encIno_len {nm : List Int} {z : Int} {xs : List Int} : (encIno nm z xs).length ≤ 64 := by
  unfold encIno; split
  · rename_i h; rw [encI_len h]; omega
  · simp
theorem szInt64S {w : World} {F : List Nat} {v : Value} {xs : List Int} {k : Int} (hx : i64.R w F v xs) (lx : xs.length ≤ 9223372036854775807) (hk : 0 ≤ k ∧ k ≤ 1048576) : Ret Try.prog 126 #[v, .int .i64 k] w (fun r w' => ∃ n, r = .int .i64 n ∧ (0 ≤ n → (xs.length : Int) ≤ k) ∧ n ≤ k ∧ Ch [] w w') := by
  refine enter Try.func126 rfl Try.ntmps126 (by rfl) (by rfl) ?_
  have H0 : Hold w [] w [] := Hold.start w
  refine sq (rg (r (sa rfl) (re (sq (rg (r (mv rfl) (r (mv rfl) (r (ln Try.underlying22 rfl ((hx.t (Hold.ch H0)))) (r (sb (a := k) (b := (xs.length : Int)) (k - (xs.length : Int)) rfl rfl (by omega)) (r (sa rfl) (re (sq (sq (rg (r (mv rfl) (r (bi rfl rfl rfl) (re ?_)))))))))))))))))
  refine cp rfl (fun h => ?_) (fun h => ?_)
  · refine sq (rg (r (sa rfl) (re (rt ?_))))
    exact fin1 (v := .int .i64 (-1)) Try.results126 rfl ⟨_, rfl, fun h => by omega, by omega, Hold.ch H0⟩
  · refine sk (sq (rg (r (mv rfl) (r (sa rfl) (re (rt ?_))))))
    exact fin1 (v := .int .i64 (k - (xs.length : Int))) Try.results126 rfl ⟨_, rfl, fun _ => by omega, by omega, Hold.ch H0⟩
theorem szInode {w : World} {F : List Nat} {s : ByteArray} {z : Int} {v : Value} {xs : List Int} {k : Int} (hs : s.size ≤ 9223372036854775807) (hx : i64.R w F v xs) (lx : xs.length ≤ 9223372036854775807) (hk : 0 ≤ k ∧ k ≤ 1048576) : Ret Try.prog 72 #[.agg #[.string s, .int .i64 z, v], .int .i64 k] w (fun r w' => ∃ n, r = .int .i64 n ∧ (0 ≤ n → (s.size : Int) ≤ k ∧ (xs.length : Int) ≤ k) ∧ n ≤ k ∧ Ch [] w w') := by
  refine enter Try.func72 rfl Try.ntmps72 (by rfl) (by rfl) ?_
  have H0 : Hold w [] w [] := Hold.start w
  refine sq (rg (ef (xbx (t := 93) rfl rfl) ?_))
  rintro _ w1 ⟨g2, e1, rfl, -, b1, c1⟩
  have H1 : Hold w [] w1 [rB g2 93 ([.string s, .int .i64 z, v])] := Hold.newB H0 e1 b1 c1
  clear H0
  clear e1 b1 c1
  have b2 : B w1 g2 93 ([.string s, .int .i64 z, v]) := Hold.blk H1 0 rfl
  refine r (sa rfl) (re (sq (rg (r (mv rfl) (r (fa Try.underlying93 rfl ti9 rfl rfl) (r (ldb Try.underlying9 rfl rfl b2 rfl) (r (lns Try.underlying9 rfl) (r (sb (a := k) (b := (s.size : Int)) (k - (s.size : Int)) rfl rfl (by omega)) (r (sa rfl) (re (sq (sq (rg (r (mv rfl) (r (bi rfl rfl rfl) (re ?_))))))))))))))))
  refine cp rfl (fun h => ?_) (fun h => ?_)
  · refine sq ?_
    refine gen (fun ρ => ρ 1 = .int .i64 (k - (s.size : Int)) ∧ ρ 2 = .pointer (some ⟨g2, 0, none⟩) ∧ ρ 4 = .int .i64 0 ∧ True) ⟨rfl, rfl, rfl, trivial⟩ ?_
    rintro ρ ⟨z1, z2, z4, -⟩
    refine rg (r (sa rfl) (re (rt ?_)))
    exact fin1 (v := .int .i64 (-1)) Try.results72 rfl ⟨_, rfl, fun h => by omega, by omega, Hold.ch H1⟩
  · refine sk (sq ?_)
    refine gen (fun ρ => ρ 1 = .int .i64 (k - (s.size : Int)) ∧ ρ 2 = .pointer (some ⟨g2, 0, none⟩) ∧ ρ 4 = .int .i64 0 ∧ True) ⟨rfl, rfl, rfl, trivial⟩ ?_
    rintro ρ ⟨z1, z2, z4, -⟩
    refine rg (r (fa Try.underlying93 rfl ti22 rfl z2) (r (ldb Try.underlying22 rfl rfl b2 rfl) (r (mv z1) (cl go126 (szInt64S (hx.t (Hold.ch H1)) lx (by omega)) (ac rfl (ac rfl an)) ?_))))
    rintro r wz ⟨n, rfl, hn1, hn2, cz⟩
    have H2 : Hold w [] wz [rB g2 93 ([.string s, .int .i64 z, v])] := Hold.t H1 cz
    clear H1
    clear cz
    refine r (sa rfl) (re (sq (sq (rg (r (mv rfl) (r (bi rfl rfl rfl) (re ?_)))))))
    refine cp rfl (fun h2 => ?_) (fun h2 => ?_)
    · refine sq (rg (r (sa rfl) (re (rt ?_))))
      exact fin1 (v := .int .i64 (-1)) Try.results72 rfl ⟨_, rfl, fun h => by omega, by omega, Hold.ch H2⟩
    · refine sk (sq (rg (r (mv rfl) (r (sa rfl) (re (rt ?_))))))
      exact fin1 (v := .int .i64 n) Try.results72 rfl ⟨_, rfl, fun h => ⟨by omega, by have := hn1 h; omega⟩, by omega, Hold.ch H2⟩
theorem toInode_H {w : World} {F : List Nat} {s : ByteArray} {z : Int} {v : Value} {xs : List Int} (hx : i64.R w F v xs) (lx : xs.length ≤ 1000000000) : Ret Try.prog 74 #[.agg #[.string s, .int .i64 z, v]] w (fun r w' => ∃ u, r = .agg #[.string s, .int .i64 z, u] ∧ Hold w [] w' [rR i64 2 u xs]) := by
  refine enter Try.func74 rfl Try.ntmps74 (by rfl) (by rfl) ?_
  have H0 : Hold w [] w [] := Hold.start w
  refine sq (rg (ef (xbx (t := 93) rfl rfl) ?_))
  rintro _ w1 ⟨g1, e1, rfl, -, b1, c1⟩
  have H1 : Hold w [] w1 [rB g1 93 ([.string s, .int .i64 z, v])] := Hold.newB H0 e1 b1 c1
  clear H0
  clear e1 b1 c1
  refine ef (xal ti96) ?_
  rintro _ w2 ⟨g2, e2, rfl, -, b2, c2⟩
  have H2 : Hold w [] w2 [rB g1 93 ([.string s, .int .i64 z, v]), rB g2 96 ([.string ⟨#[]⟩, .int .i64 0, .slice none 0 0])] := Hold.newB H1 e2 b2 c2
  clear H1
  clear e2 b2 c2
  refine re (sq (rg (ef (xal ti96) ?_)))
  rintro _ w3 ⟨g3, e3, rfl, -, b3, c3⟩
  have H3 : Hold w [] w3 [rB g1 93 ([.string s, .int .i64 z, v]), rB g2 96 ([.string ⟨#[]⟩, .int .i64 0, .slice none 0 0]), rB g3 96 ([.string ⟨#[]⟩, .int .i64 0, .slice none 0 0])] := Hold.newB H2 e3 b3 c3
  clear H2
  clear e3 b3 c3
  have b4 : B w3 g1 93 ([.string s, .int .i64 z, v]) := Hold.blk H3 0 rfl
  have b5 : B w3 g3 96 ([.string ⟨#[]⟩, .int .i64 0, .slice none 0 0]) := Hold.blk H3 2 rfl
  refine re (sq (rg (r (fa Try.underlying93 rfl ti9 rfl rfl) (r (ldb Try.underlying9 rfl rfl b4 rfl) (r (fa Try.underlying96 rfl ti9 rfl rfl) (ef0 (xst (vs := [.string s]) ti9 rfl rfl (cel1 rfl) b5 rfl (Nat.le_of_ble_eq_true rfl) (one_all rfl)) ?_))))))
  rintro w6 ⟨-, b6, c6⟩
  have H4 : Hold w [] w6 [rB g1 93 ([.string s, .int .i64 z, v]), rB g2 96 ([.string ⟨#[]⟩, .int .i64 0, .slice none 0 0]), rB g3 96 ([.string s, .int .i64 0, .slice none 0 0])] := Hold.setB H3 2 rfl b6 c6 rfl
  clear H3
  clear b6 c6
  have b7 : B w6 g1 93 ([.string s, .int .i64 z, v]) := Hold.blk H4 0 rfl
  have b8 : B w6 g3 96 ([.string s, .int .i64 0, .slice none 0 0]) := Hold.blk H4 2 rfl
  refine re (sq (rg (r (fa Try.underlying93 rfl ti2 rfl rfl) (r (ldb Try.underlying2 rfl rfl b7 rfl) (r (fa Try.underlying96 rfl ti2 rfl rfl) (ef0 (xst (vs := [.int .i64 z]) ti2 rfl rfl (cel1 rfl) b8 rfl (Nat.le_of_ble_eq_true rfl) (one_all rfl)) ?_))))))
  rintro w9 ⟨-, b9, c9⟩
  have H5 : Hold w [] w9 [rB g1 93 ([.string s, .int .i64 z, v]), rB g2 96 ([.string ⟨#[]⟩, .int .i64 0, .slice none 0 0]), rB g3 96 ([.string s, .int .i64 z, .slice none 0 0])] := Hold.setB H4 2 rfl b9 c9 rfl
  clear H4
  clear b9 c9
  have b10 : B w9 g1 93 ([.string s, .int .i64 z, v]) := Hold.blk H5 0 rfl
  refine re (sq (rg (r (fa Try.underlying93 rfl ti22 rfl rfl) (r (ldb Try.underlying22 rfl rfl b10 rfl) (cl go24 (toInt64S_H (hx.t (Hold.ch H5)) (by first | assumption | omega | (simp; omega))) (ac rfl an) ?_)))))
  rintro r11 wt11 Ht11
  have H6 : Hold w [] wt11 [rB g1 93 ([.string s, .int .i64 z, v]), rB g2 96 ([.string ⟨#[]⟩, .int .i64 0, .slice none 0 0]), rB g3 96 ([.string s, .int .i64 z, .slice none 0 0]), rR i64 2 r11 xs] := Hold.news H5 Ht11
  clear H5
  clear Ht11
  have b13 : B wt11 g3 96 ([.string s, .int .i64 z, .slice none 0 0]) := Hold.blk H6 2 rfl
  obtain ⟨_, R15⟩ : ∃ F, Kd.R i64 wt11 F r11 xs := Hold.row H6 3 rfl
  refine r (fa Try.underlying96 rfl ti22 rfl rfl) (ef0 (xst (vs := [r11]) ti22 rfl rfl (cel1 (R15).oneCell) b13 rfl (Nat.le_of_ble_eq_true rfl) (ones1 (R15).oneCell)) ?_)
  rintro w14 ⟨-, b14, c14⟩
  have H7 : Hold w [] w14 [rB g1 93 ([.string s, .int .i64 z, v]), rB g2 96 ([.string ⟨#[]⟩, .int .i64 0, .slice none 0 0]), rB g3 96 ([.string s, .int .i64 z, r11]), rR i64 2 r11 xs] := Hold.setB H6 2 rfl b14 c14 rfl
  clear H6
  clear b14 c14
  refine re (sq ?_)
  refine gen (fun ρ => ρ 2 = .pointer (some ⟨g2, 0, none⟩) ∧ ρ 3 = .pointer (some ⟨g3, 0, none⟩) ∧ True) ⟨rfl, rfl, trivial⟩ ?_
  rintro ρ ⟨z2, z3, -⟩
  have b16 : B w14 g3 96 ([.string s, .int .i64 z, r11]) := Hold.blk H7 2 rfl
  have b17 : B w14 g2 96 ([.string ⟨#[]⟩, .int .i64 0, .slice none 0 0]) := Hold.blk H7 1 rfl
  obtain ⟨_, R19⟩ : ∃ F, Kd.R i64 w14 F r11 xs := Hold.row H7 3 rfl
  refine rg (r (lab [.string s, .int .i64 z, r11] Try.underlying96 rfl ti96 z3 b16 rfl rfl) (ef0 (xst (vs := [.string s, .int .i64 z, r11]) ti96 z2 rfl rfl b17 rfl (Nat.le_of_ble_eq_true rfl) (oc rfl (oc rfl (oc (R19).oneCell on)))) ?_))
  rintro w18 ⟨-, b18, c18⟩
  have H8 : Hold w [] w18 [rB g1 93 ([.string s, .int .i64 z, v]), rB g2 96 ([.string s, .int .i64 z, r11]), rB g3 96 ([.string s, .int .i64 z, r11]), rR i64 2 r11 xs] := Hold.setB H7 1 rfl b18 c18 rfl
  clear H7
  clear b18 c18
  refine re (rt ?_)
  have b20 : B w18 g2 96 ([.string s, .int .i64 z, r11]) := Hold.blk H8 1 rfl
  have H9 : Hold w [] w18 [rR i64 2 r11 xs] := (show Hold w [] w18 ([rR i64 2 r11 xs] ++ [rB g1 93 ([.string s, .int .i64 z, v]), rB g2 96 ([.string s, .int .i64 z, r11]), rB g3 96 ([.string s, .int .i64 z, r11])]) from Hold.re H8 [3, 0, 1, 2] (by rfl) (by rfl)).drop
  clear H8
  exact finc  (cs := [.string s, .int .i64 z, r11]) Try.results74 Try.underlying96 rfl ti96 z2 b20 rfl  ⟨_, rfl, H9⟩
theorem markInode_H {w : World} {F : List Nat} {s : ByteArray} {z : Int} {v : Value} {xs : List Int} {k : Int} {e : TypeId} (h : Hs w [rR i64 e v xs] F) (n : F.Nodup) (hk : 0 ≤ k ∧ k ≤ 1000000000) (lx : xs.length ≤ 1000000000) :
    Ret Try.prog 77 #[.agg #[.string s, .int .i64 z, v], .int .i64 k] w (fun r w' => r = .int .i64 (k + xs.length) ∧ Hold w F w' [rR i64 e v (marks8 k xs.length)]) := by
  refine enter Try.func77 rfl Try.ntmps77 (by rfl) (by rfl) ?_
  have H0 : Hold w F w [rR i64 e v xs] := Hold.begin h n
  refine sq (rg (ef (xbx (t := 96) rfl rfl) ?_))
  rintro _ w1 ⟨g2, e1, rfl, -, b1, c1⟩
  have H1 : Hold w F w1 [rR i64 e v xs, rB g2 96 ([.string s, .int .i64 z, v])] := Hold.newB H0 e1 b1 c1
  clear H0
  clear e1 b1 c1
  have b2 : B w1 g2 96 ([.string s, .int .i64 z, v]) := Hold.blk H1 1 rfl
  obtain ⟨F4, hF4, n4, s4, K4⟩ := Hold.front (Γ := [rR i64 e v xs]) (Δ := [rB g2 96 ([.string s, .int .i64 z, v])]) H1
  refine r (sa rfl) (re (sq (rg (r (fa Try.underlying96 rfl ti22 rfl rfl) (r (ldb Try.underlying22 rfl rfl b2 rfl) (r (mv rfl) (cl go50 (markInt64S_H hF4 n4 (by omega) (by first | assumption | omega | (simp; omega))) (ac rfl (ac rfl an)) ?_)))))))
  rintro r wm3 ⟨rfl, Hm3⟩
  have H2 : Hold w F wm3 [rR i64 e v (marks8 k xs.length), rB g2 96 ([.string s, .int .i64 z, v])] := Hold.call K4 Hm3
  clear H1
  clear K4 hF4 n4 s4
  clear Hm3
  refine r (sa rfl) (re (sq (rg (r (mv rfl) (r (sa rfl) (re (rt ?_)))))))
  have H3 : Hold w F wm3 [rR i64 e v (marks8 k xs.length)] := (show Hold w F wm3 ([rR i64 e v (marks8 k xs.length)] ++ [rB g2 96 ([.string s, .int .i64 z, v])]) from Hold.re H2 [0, 1] (by rfl) (by rfl)).drop
  clear H2
  exact fin1 (v := .int .i64 (k + (xs.length : Int))) Try.results77 rfl ⟨rfl, H3⟩
theorem eqInode {w : World} {F G : List Nat} {s t : ByteArray} {z y : Int} {v u : Value} {xs ys : List Int} (hx : i64.R w F v xs) (hy : i64.R w G u ys) (lx : xs.length ≤ 1000000000) : Ret Try.prog 76 #[.agg #[.string s, .int .i64 z, v], .agg #[.string t, .int .i64 y, u]] w (fun r w' => r = .bool (decide ((s, z, xs) = (t, y, ys))) ∧ Ch [] w w') := by
  refine enter Try.func76 rfl Try.ntmps76 (by rfl) (by rfl) ?_
  have H0 : Hold w [] w [] := Hold.start w
  refine sq (rg (ef (xbx (t := 96) rfl rfl) ?_))
  rintro _ w1 ⟨g2, e1, rfl, -, b1, c1⟩
  have H1 : Hold w [] w1 [rB g2 96 ([.string s, .int .i64 z, v])] := Hold.newB H0 e1 b1 c1
  clear H0
  clear e1 b1 c1
  refine ef (xbx (t := 96) rfl rfl) ?_
  rintro _ w2 ⟨g3, e2, rfl, -, b2, c2⟩
  have H2 : Hold w [] w2 [rB g2 96 ([.string s, .int .i64 z, v]), rB g3 96 ([.string t, .int .i64 y, u])] := Hold.newB H1 e2 b2 c2
  clear H1
  clear e2 b2 c2
  have b3 : B w2 g2 96 ([.string s, .int .i64 z, v]) := Hold.blk H2 0 rfl
  have b4 : B w2 g3 96 ([.string t, .int .i64 y, u]) := Hold.blk H2 1 rfl
  refine r (sa rfl) (re (sq (sq (rg (r (fa Try.underlying96 rfl ti9 rfl rfl) (r (ldb Try.underlying9 rfl rfl b3 rfl) (r (fa Try.underlying96 rfl ti9 rfl rfl) (r (ldb Try.underlying9 rfl rfl b4 rfl) (r (sne rfl rfl) (re ?_))))))))))
  refine cpn rfl (fun h1 => ?_) (fun h1 => ?_)
  · refine sq (rg (r (sa rfl) (re (rt ?_))))
    exact fin1 (v := .bool false) Try.results76 rfl ⟨congrArg Value.bool (decide_eq_false (fun e => h1 (by simp only [Prod.mk.injEq] at e; first | exact e.1 | exact e.2.1 | exact e.2.2))).symm, Hold.ch H2⟩
  · refine sk (sq (sq (rg (r (fa Try.underlying96 rfl ti2 rfl rfl) (r (ldb Try.underlying2 rfl rfl b3 rfl) (r (fa Try.underlying96 rfl ti2 rfl rfl) (r (ldb Try.underlying2 rfl rfl b4 rfl) (r (bi rfl rfl rfl) (re ?_)))))))))
    refine cpn rfl (fun h2 => ?_) (fun h2 => ?_)
    · refine sq ?_
      refine gen (fun ρ => ρ 2 = .pointer (some ⟨g2, 0, none⟩) ∧ ρ 3 = .pointer (some ⟨g3, 0, none⟩) ∧ ρ 4 = .bool false ∧ True) ⟨rfl, rfl, rfl, trivial⟩ ?_
      rintro ρ ⟨z2, z3, z4, -⟩
      refine rg (r (sa rfl) (re (rt ?_)))
      exact fin1 (v := .bool false) Try.results76 rfl ⟨congrArg Value.bool (decide_eq_false (fun e => h2 (by simp only [Prod.mk.injEq] at e; first | exact e.1 | exact e.2.1 | exact e.2.2))).symm, Hold.ch H2⟩
    · refine sk (sq (sq ?_))
      refine gen (fun ρ => ρ 2 = .pointer (some ⟨g2, 0, none⟩) ∧ ρ 3 = .pointer (some ⟨g3, 0, none⟩) ∧ ρ 4 = .bool false ∧ True) ⟨rfl, rfl, rfl, trivial⟩ ?_
      rintro ρ ⟨z2, z3, z4, -⟩
      refine rg (r (fa Try.underlying96 rfl ti22 rfl z2) (r (ldb Try.underlying22 rfl rfl b3 rfl) (r (fa Try.underlying96 rfl ti22 rfl z3) (r (ldb Try.underlying22 rfl rfl b4 rfl) (cl go26 (eqInt64S (hx.t (Hold.ch H2)) (hy.t (Hold.ch H2)) (by first | assumption | omega | (simp; omega))) (ac rfl (ac rfl an)) ?_)))))
      rintro r wq5 ⟨rfl, cq5⟩
      have H3 : Hold w [] wq5 [rB g2 96 ([.string s, .int .i64 z, v]), rB g3 96 ([.string t, .int .i64 y, u])] := Hold.t H2 cq5
      clear H2
      clear cq5
      refine r (nt rfl) (re ?_)
      refine cpn rfl (fun h3 => ?_) (fun h3 => ?_)
      · refine sq (rg (r (sa rfl) (re (rt ?_))))
        exact fin1 (v := .bool false) Try.results76 rfl ⟨congrArg Value.bool (decide_eq_false (fun e => h3 (by simp only [Prod.mk.injEq] at e; first | exact e.1 | exact e.2.1 | exact e.2.2))).symm, Hold.ch H3⟩
      · refine sk (sq (rg (r (sa rfl) (re (rt ?_)))))
        exact fin1 (v := .bool true) Try.results76 rfl ⟨congrArg Value.bool (decide_eq_true (by simp only [Prod.mk.injEq]; exact ⟨by simpa using h1, by simpa using h2, by simpa using h3⟩)).symm, Hold.ch H3⟩
theorem w_FnExactEncodeInode {w : World} {F : List Nat} {s : ByteArray} {z : Int} {v : Value} {xs : List Int} (hs : s.size ≤ 9223372036854775807) (hx : i64.R w F v xs) (l0 : xs.length ≤ 9223372036854775807) :
    Ret Try.prog 16 #[.agg #[.string s, .int .i64 z, v]] w (fun r w' => r = .bool true ∧ Ch [] w w') := by
  refine enter Try.func16 rfl Try.ntmps16 (by rfl) (by rfl) ?_
  have H0 : Hold w [] w [] := Hold.start w
  refine sq (rg (ef (xbx (t := 93) rfl rfl) ?_))
  rintro _ w1 ⟨g1, e1, rfl, -, b1, c1⟩
  have H1 : Hold w [] w1 [rB g1 93 ([.string s, .int .i64 z, v])] := Hold.newB H0 e1 b1 c1
  clear H0
  clear e1 b1 c1
  have b2 : B w1 g1 93 ([.string s, .int .i64 z, v]) := Hold.blk H1 0 rfl
  refine r (sa rfl) (re (sq (rg (r (sa rfl) (re (sq (rg (r (lab [.string s, .int .i64 z, v] Try.underlying93 rfl ti93 rfl b2 rfl rfl) (r (mv rfl) (cl go72 (szInode hs (hx.t (Hold.ch H1)) l0 (by omega)) (ac rfl (ac rfl an)) ?_))))))))))
  rintro r wz ⟨n, rfl, hn1, hn2, cz⟩
  have H2 : Hold w [] wz [rB g1 93 ([.string s, .int .i64 z, v])] := Hold.t H1 cz
  clear H1
  clear cz
  refine r (sa rfl) (re (sq (sq (rg (r (mv rfl) (r (bi rfl rfl rfl) (re ?_)))))))
  refine cp rfl (fun h => ?_) (fun h => ?_)
  · refine sq (rg (r (sa rfl) (re (rt ?_))))
    exact fin1 (v := .bool true) Try.results16 rfl ⟨rfl, Hold.ch H2⟩
  · obtain ⟨hs1, hx1⟩ := hn1 (by omega)
    have lx : xs.length ≤ 1000000000 := by omega
    have lE := encIno_len (nm := nums8 s) (z := z) (xs := xs)
    have b4 : B wz g1 93 ([.string s, .int .i64 z, v]) := Hold.blk H2 0 rfl
    refine sk (sq (rg (r (lab [.string s, .int .i64 z, v] Try.underlying93 rfl ti93 rfl b4 rfl rfl) (cl go74 (toInode_H (hx.t (Hold.ch H2)) (by first | assumption | omega | (simp; omega))) (ac rfl an) ?_))))
    rintro r wt5 ⟨u5, rfl, Ht5⟩
    have H3 : Hold w [] wt5 [rB g1 93 ([.string s, .int .i64 z, v]), rR i64 2 u5 xs] := Hold.news H2 Ht5
    clear H2
    clear Ht5
    obtain ⟨_, R9⟩ : ∃ F, Kd.R i64 wt5 F u5 xs := Hold.row H3 1 rfl
    refine cl go73 (spec_EncodeInode hs R9 (by first | assumption | omega | (simp; omega))) (ac rfl an) ?_
    rintro r7 wd7 ⟨e7, Hd7⟩
    have H4 : Hold w [] wd7 [rB g1 93 ([.string s, .int .i64 z, v]), rR i64 2 u5 xs, rR u8 e7 r7 (encIno (nums8 s) z xs)] := Hold.news H3 Hd7
    clear H3
    clear Hd7
    refine r (sa rfl) (re (sq ?_))
    refine gen (fun ρ => ρ 1 = .pointer (some ⟨g1, 0, none⟩) ∧ ρ 2 = .bool false ∧ ρ 4 = r7 ∧ True) ⟨rfl, rfl, rfl, trivial⟩ ?_
    rintro ρ ⟨z1, z2, z4, -⟩
    have b10 : B wd7 g1 93 ([.string s, .int .i64 z, v]) := Hold.blk H4 0 rfl
    refine rg (r (lab [.string s, .int .i64 z, v] Try.underlying93 rfl ti93 z1 b10 rfl rfl) (cl go74 (toInode_H (hx.t (Hold.ch H4)) (by first | assumption | omega | (simp; omega))) (ac rfl an) ?_))
    rintro r wt11 ⟨u11, rfl, Ht11⟩
    have H5 : Hold w [] wt11 [rB g1 93 ([.string s, .int .i64 z, v]), rR i64 2 u5 xs, rR u8 e7 r7 (encIno (nums8 s) z xs), rR i64 2 u11 xs] := Hold.news H4 Ht11
    clear H4
    clear Ht11
    refine ef (xal ti96) ?_
    rintro _ w13 ⟨g5, e13, rfl, -, b13, c13⟩
    have H6 : Hold w [] w13 [rB g1 93 ([.string s, .int .i64 z, v]), rR i64 2 u5 xs, rR u8 e7 r7 (encIno (nums8 s) z xs), rR i64 2 u11 xs, rB g5 96 ([.string ⟨#[]⟩, .int .i64 0, .slice none 0 0])] := Hold.newB H5 e13 b13 c13
    clear H5
    clear e13 b13 c13
    have b14 : B w13 g5 96 ([.string ⟨#[]⟩, .int .i64 0, .slice none 0 0]) := Hold.blk H6 4 rfl
    obtain ⟨_, R16⟩ : ∃ F, Kd.R i64 w13 F u11 xs := Hold.row H6 3 rfl
    refine ef0 (xst (vs := [.string s, .int .i64 z, u11]) ti96 rfl rfl rfl b14 rfl (Nat.le_of_ble_eq_true rfl) (oc rfl (oc rfl (oc (R16).oneCell on)))) ?_
    rintro w15 ⟨-, b15, c15⟩
    have H7 : Hold w [] w15 [rB g1 93 ([.string s, .int .i64 z, v]), rR i64 2 u5 xs, rR u8 e7 r7 (encIno (nums8 s) z xs), rR i64 2 u11 xs, rB g5 96 ([.string s, .int .i64 z, u11])] := Hold.setB H6 4 rfl b15 c15 rfl
    clear H6
    clear b15 c15
    have b17 : B w15 g5 96 ([.string s, .int .i64 z, u11]) := Hold.blk H7 4 rfl
    obtain ⟨_, R20⟩ : ∃ F, Kd.R i64 w15 F u11 xs := Hold.row H7 3 rfl
    refine re (sq (rg (r (lab [.string s, .int .i64 z, u11] Try.underlying96 rfl ti96 rfl b17 rfl rfl) (cl go75 (impl_EncodeInode hs R20 (by first | assumption | omega | (simp; omega))) (ac rfl an) ?_))))
    rintro r18 wd18 ⟨e18, Hd18⟩
    have H8 : Hold w [] wd18 [rB g1 93 ([.string s, .int .i64 z, v]), rR i64 2 u5 xs, rR u8 e7 r7 (encIno (nums8 s) z xs), rR i64 2 u11 xs, rB g5 96 ([.string s, .int .i64 z, u11]), rR u8 e18 r18 (encIno (nums8 s) z xs)] := Hold.news H7 Hd18
    clear H7
    clear Hd18
    obtain ⟨_, R23⟩ : ∃ F, Kd.R u8 wd18 F r18 (encIno (nums8 s) z xs) := Hold.row H8 5 rfl
    obtain ⟨_, R24⟩ : ∃ F, Kd.R u8 wd18 F r7 (encIno (nums8 s) z xs) := Hold.row H8 2 rfl
    refine r (sa rfl) (re (sq (sq (rg (r (mv rfl) (r (mv z4) (cl go36 (eqByteS R23 R24 (by first | assumption | omega | (simp; omega))) (ac rfl (ac rfl an)) ?_)))))))
    rintro r wq21 ⟨rfl, cq21⟩
    have H9 : Hold w [] wq21 [rB g1 93 ([.string s, .int .i64 z, v]), rR i64 2 u5 xs, rR u8 e7 r7 (encIno (nums8 s) z xs), rR i64 2 u11 xs, rB g5 96 ([.string s, .int .i64 z, u11]), rR u8 e18 r18 (encIno (nums8 s) z xs)] := Hold.t H8 cq21
    clear H8
    clear cq21
    refine r (nt rfl) (re ?_)
    refine cf ((rfl : _ = Value.bool (!(decide (encIno (nums8 s) z xs = encIno (nums8 s) z xs)))).trans (congrArg Value.bool (show (!(decide (encIno (nums8 s) z xs = encIno (nums8 s) z xs))) = false from (by rw [decide_eq_true rfl]; rfl)))) ?_
    refine sk (sq (sq ?_))
    refine gen (fun ρ => ρ 1 = .pointer (some ⟨g1, 0, none⟩) ∧ ρ 2 = .bool false ∧ ρ 4 = r7 ∧ ρ 5 = .pointer (some ⟨g5, 0, none⟩) ∧ ρ 6 = r18 ∧ True) ⟨z1, z2, z4, rfl, rfl, trivial⟩ ?_
    rintro ρ ⟨z1, z2, z4, z5, z6, -⟩
    refine rde mixed ?_
    intro w25 c25
    have H10 : Hold w [] w25 [rB g1 93 ([.string s, .int .i64 z, v]), rR i64 2 u5 xs, rR u8 e7 r7 (encIno (nums8 s) z xs), rR i64 2 u11 xs, rB g5 96 ([.string s, .int .i64 z, u11]), rR u8 e18 r18 (encIno (nums8 s) z xs)] := Hold.t H9 c25
    clear H9
    clear c25
    have H26d0 : Hold w25 [] w25 [] := Hold.start w25
    refine ⟨fun w' => Ch [] w25 w', Ch.refl _ _, ?_⟩
    have b27 : B w25 g5 96 ([.string s, .int .i64 z, u11]) := Hold.blk H10 4 rfl
    have b28 : B w25 g1 93 ([.string s, .int .i64 z, v]) := Hold.blk H10 0 rfl
    refine edt 0 rfl (by kernel_rfl) (fun w' hS => lab [.string s, .int .i64 z, u11] Try.underlying96 rfl ti96 z5 (hS.b0 b27) rfl rfl) (edt 1 rfl (by kernel_rfl) (fun w' hS => lab [.string s, .int .i64 z, v] Try.underlying93 rfl ti93 z1 (hS.b0 b28) rfl rfl) (ed1 2 (by kernel_rfl) <| euc rfl go74 (ac rfl an) (toInode_H ((hx.t (Hold.ch H10)).t (Hold.ch H26d0)) (by first | assumption | omega | (simp; omega))) ?_))
    rintro r wt29 ⟨u29, rfl, Ht29⟩
    have H11d : Hold w25 [] wt29 [rR i64 2 u29 xs] := Hold.news H26d0 Ht29
    clear H26d0
    clear Ht29
    refine ⟨.inr (Hold.ch H11d), ?_⟩
    obtain ⟨_, R33⟩ : ∃ F, Kd.R i64 w25 F u11 xs := Hold.row H10 3 rfl
    obtain ⟨_, R34⟩ : ∃ F, Kd.R i64 wt29 F u29 xs := Hold.row H11d 0 rfl
    refine ed1 3 (by kernel_rfl) <| euc rfl go76 (ac rfl (ac rfl an)) (eqInode (R33.t (Hold.ch H11d)) R34 (by first | assumption | omega | (simp; omega))) ?_
    rintro r wq31 ⟨rfl, cq31⟩
    have H12d : Hold w25 [] wq31 [rR i64 2 u29 xs] := Hold.t H11d cq31
    clear H11d
    clear cq31
    refine ⟨.inr (Hold.ch H12d), ?_⟩
    have H13 : Hold w [] wq31 [rB g1 93 ([.string s, .int .i64 z, v]), rR i64 2 u5 xs, rR u8 e7 r7 (encIno (nums8 s) z xs), rR i64 2 u11 xs, rB g5 96 ([.string s, .int .i64 z, u11]), rR u8 e18 r18 (encIno (nums8 s) z xs), rR i64 2 u29 xs] := Hold.news H10 H12d
    clear H12d H10
    refine ed1 4 (by kernel_rfl) <| eur rfl (nt rfl) (.inl (by kernel_rfl)) ?_
    refine edd (by kernel_rfl) ?_
    refine cf ((rfl : _ = Value.bool (!(decide ((s, z, xs) = (s, z, xs))))).trans (congrArg Value.bool (show (!(decide ((s, z, xs) = (s, z, xs)))) = false from (by rw [decide_eq_true rfl]; rfl)))) ?_
    have b35 : B wq31 g5 96 ([.string s, .int .i64 z, u11]) := Hold.blk H13 4 rfl
    have H14 : Hold w [] wq31 [rR i64 2 u11 xs, rB g1 93 ([.string s, .int .i64 z, v]), rR i64 2 u5 xs, rR u8 e7 r7 (encIno (nums8 s) z xs), rB g5 96 ([.string s, .int .i64 z, u11]), rR u8 e18 r18 (encIno (nums8 s) z xs), rR i64 2 u29 xs] := Hold.re H13 [3, 0, 1, 2, 4, 5, 6] (by rfl) (by rfl)
    clear H13
    obtain ⟨F37, hF37, n37, s37, K37⟩ := Hold.front (Γ := [rR i64 2 u11 xs]) (Δ := [rB g1 93 ([.string s, .int .i64 z, v]), rR i64 2 u5 xs, rR u8 e7 r7 (encIno (nums8 s) z xs), rB g5 96 ([.string s, .int .i64 z, u11]), rR u8 e18 r18 (encIno (nums8 s) z xs), rR i64 2 u29 xs]) H14
    refine sk (sq (rg (r (sa rfl) (re (sq (rg (r (lab [.string s, .int .i64 z, u11] Try.underlying96 rfl ti96 z5 b35 rfl rfl) (r (mv rfl) (cl go77 (markInode_H hF37 n37 (by omega) (by first | assumption | omega | (simp; omega))) (ac rfl (ac rfl an)) ?_)))))))))
    rintro r wm36 ⟨rfl, Hm36⟩
    have H15 : Hold w [] wm36 [rR i64 2 u11 (marks8 1 xs.length), rB g1 93 ([.string s, .int .i64 z, v]), rR i64 2 u5 xs, rR u8 e7 r7 (encIno (nums8 s) z xs), rB g5 96 ([.string s, .int .i64 z, u11]), rR u8 e18 r18 (encIno (nums8 s) z xs), rR i64 2 u29 xs] := Hold.call K37 Hm36
    clear H14
    clear K37 hF37 n37 s37
    clear Hm36
    refine r (sa rfl) (re (sq (sq ?_)))
    refine gen (fun ρ => ρ 1 = .pointer (some ⟨g1, 0, none⟩) ∧ ρ 2 = .bool false ∧ ρ 4 = r7 ∧ ρ 6 = r18 ∧ ρ 7 = .int .i64 (1 + (xs.length : Int)) ∧ True) ⟨z1, z2, z4, z6, rfl, trivial⟩ ?_
    rintro ρ ⟨z1, z2, z4, z6, z7, -⟩
    refine rg (r (mv z7) (r (bi rfl rfl rfl) (r (mv rfl) ?_)))
    refine spf 37 rfl (show (decide ((1 + (xs.length : Int)) < 0)) = false from (decide_eq_false (by omega))) ?_
    obtain ⟨_, R40⟩ : ∃ F, Kd.R u8 wm36 F r18 (encIno (nums8 s) z xs) := Hold.row H15 5 rfl
    obtain ⟨_, R41⟩ : ∃ F, Kd.R u8 wm36 F r7 (encIno (nums8 s) z xs) := Hold.row H15 3 rfl
    refine gy rfl rfl rfl (r (mv z6) (gy rfl rfl rfl (r (mv z4) (gy rfl rfl rfl (cl go36 (eqByteS R40 R41 (by first | assumption | omega | (simp; omega))) (ac rfl (ac rfl an)) ?_)))))
    rintro r wq38 ⟨rfl, cq38⟩
    have H16 : Hold w [] wq38 [rR i64 2 u11 (marks8 1 xs.length), rB g1 93 ([.string s, .int .i64 z, v]), rR i64 2 u5 xs, rR u8 e7 r7 (encIno (nums8 s) z xs), rB g5 96 ([.string s, .int .i64 z, u11]), rR u8 e18 r18 (encIno (nums8 s) z xs), rR i64 2 u29 xs] := Hold.t H15 cq38
    clear H15
    clear cq38
    refine gy rfl rfl rfl (r (nt rfl) (r (pk rfl rfl) (re ?_)))
    refine cf ((rfl : _ = Value.bool (!(decide (encIno (nums8 s) z xs = encIno (nums8 s) z xs)))).trans (congrArg Value.bool (show (!(decide (encIno (nums8 s) z xs = encIno (nums8 s) z xs))) = false from (by rw [decide_eq_true rfl]; rfl)))) ?_
    have H17 : Hold w [] wq38 [rR u8 e18 r18 (encIno (nums8 s) z xs), rR i64 2 u11 (marks8 1 xs.length), rB g1 93 ([.string s, .int .i64 z, v]), rR i64 2 u5 xs, rR u8 e7 r7 (encIno (nums8 s) z xs), rB g5 96 ([.string s, .int .i64 z, u11]), rR i64 2 u29 xs] := Hold.re H16 [5, 0, 1, 2, 3, 4, 6] (by rfl) (by rfl)
    clear H16
    obtain ⟨F43, hF43, n43, s43, K43⟩ := Hold.front (Γ := [rR u8 e18 r18 (encIno (nums8 s) z xs)]) (Δ := [rR i64 2 u11 (marks8 1 xs.length), rB g1 93 ([.string s, .int .i64 z, v]), rR i64 2 u5 xs, rR u8 e7 r7 (encIno (nums8 s) z xs), rB g5 96 ([.string s, .int .i64 z, u11]), rR i64 2 u29 xs]) H17
    refine sk (sq (rg (r (sa rfl) (re (sq (rg (r (mv z6) (r (mv rfl) (cl go37 (markByteS_H hF43 n43 (by omega) (by first | assumption | omega | (simp; omega))) (ac rfl (ac rfl an)) ?_)))))))))
    rintro r wm42 ⟨rfl, Hm42⟩
    have H18 : Hold w [] wm42 [rR u8 e18 r18 (marks 1 (encIno (nums8 s) z xs).length), rR i64 2 u11 (marks8 1 xs.length), rB g1 93 ([.string s, .int .i64 z, v]), rR i64 2 u5 xs, rR u8 e7 r7 (encIno (nums8 s) z xs), rB g5 96 ([.string s, .int .i64 z, u11]), rR i64 2 u29 xs] := Hold.call K43 Hm42
    clear H17
    clear K43 hF43 n43 s43
    clear Hm42
    refine r (sa rfl) (re (sq ?_))
    refine gen (fun ρ => ρ 1 = .pointer (some ⟨g1, 0, none⟩) ∧ ρ 2 = .bool false ∧ ρ 4 = r7 ∧ ρ 6 = r18 ∧ ρ 8 = .int .i64 (1 + ((encIno (nums8 s) z xs).length : Int)) ∧ True) ⟨z1, z2, z4, z6, rfl, trivial⟩ ?_
    rintro ρ ⟨z1, z2, z4, z6, z8, -⟩
    obtain ⟨_, R46⟩ : ∃ F, Kd.R u8 wm42 F r18 (marks 1 (encIno (nums8 s) z xs).length) := Hold.row H18 0 rfl
    refine rg (r (sa rfl) (re (sq (rg (r (mv z6) (r (mv rfl) (cl go38 (heldByteS (n := (encIno (nums8 s) z xs).length) R46 (by omega) (by first | assumption | omega | (simp; omega))) (ac rfl (ac rfl an)) ?_)))))))
    rintro r wh44 ⟨rfl, ch44⟩
    have H19 : Hold w [] wh44 [rR u8 e18 r18 (marks 1 (encIno (nums8 s) z xs).length), rR i64 2 u11 (marks8 1 xs.length), rB g1 93 ([.string s, .int .i64 z, v]), rR i64 2 u5 xs, rR u8 e7 r7 (encIno (nums8 s) z xs), rB g5 96 ([.string s, .int .i64 z, u11]), rR i64 2 u29 xs] := Hold.t H18 ch44
    clear H18
    clear ch44
    refine r (sa rfl) (re (sq (sq (rg (r (mv rfl) (r (bi rfl rfl rfl) (re ?_)))))))
    refine cf ((rfl : _ = Value.bool (decide ((1 + ((((encIno (nums8 s) z xs).length) : Nat) : Int)) < 0))).trans (congrArg Value.bool (show (decide ((1 + ((((encIno (nums8 s) z xs).length) : Nat) : Int)) < 0)) = false from (decide_eq_false (by omega))))) ?_
    refine sk (sq (sq (rg (r (mv rfl) (r (mv z8) (r (bi rfl rfl rfl) (re ?_)))))))
    refine cf ((rfl : _ = Value.bool (!decide ((1 + ((((encIno (nums8 s) z xs).length) : Nat) : Int)) = (1 + ((encIno (nums8 s) z xs).length : Int))))).trans (congrArg Value.bool (show (!decide ((1 + ((((encIno (nums8 s) z xs).length) : Nat) : Int)) = (1 + ((encIno (nums8 s) z xs).length : Int)))) = false from (by rw [decide_eq_true (by omega)]; rfl)))) ?_
    refine sk (sq ?_)
    refine gen (fun ρ => ρ 1 = .pointer (some ⟨g1, 0, none⟩) ∧ ρ 2 = .bool false ∧ ρ 4 = r7 ∧ True) ⟨z1, z2, z4, trivial⟩ ?_
    rintro ρ ⟨z1, z2, z4, -⟩
    have b47 : B wh44 g1 93 ([.string s, .int .i64 z, v]) := Hold.blk H19 2 rfl
    refine rg (r (lab [.string s, .int .i64 z, v] Try.underlying93 rfl ti93 z1 b47 rfl rfl) (cl go74 (toInode_H (hx.t (Hold.ch H19)) (by first | assumption | omega | (simp; omega))) (ac rfl an) ?_))
    rintro r wt48 ⟨u48, rfl, Ht48⟩
    have H20 : Hold w [] wt48 [rR u8 e18 r18 (marks 1 (encIno (nums8 s) z xs).length), rR i64 2 u11 (marks8 1 xs.length), rB g1 93 ([.string s, .int .i64 z, v]), rR i64 2 u5 xs, rR u8 e7 r7 (encIno (nums8 s) z xs), rB g5 96 ([.string s, .int .i64 z, u11]), rR i64 2 u29 xs, rR i64 2 u48 xs] := Hold.news H19 Ht48
    clear H19
    clear Ht48
    obtain ⟨_, R52⟩ : ∃ F, Kd.R i64 wt48 F u48 xs := Hold.row H20 7 rfl
    refine cl go75 (impl_EncodeInode hs R52 (by first | assumption | omega | (simp; omega))) (ac rfl an) ?_
    rintro r50 wd50 ⟨e50, Hd50⟩
    have H21 : Hold w [] wd50 [rR u8 e18 r18 (marks 1 (encIno (nums8 s) z xs).length), rR i64 2 u11 (marks8 1 xs.length), rB g1 93 ([.string s, .int .i64 z, v]), rR i64 2 u5 xs, rR u8 e7 r7 (encIno (nums8 s) z xs), rB g5 96 ([.string s, .int .i64 z, u11]), rR i64 2 u29 xs, rR i64 2 u48 xs, rR u8 e50 r50 (encIno (nums8 s) z xs)] := Hold.news H20 Hd50
    clear H20
    clear Hd50
    obtain ⟨_, R55⟩ : ∃ F, Kd.R u8 wd50 F r50 (encIno (nums8 s) z xs) := Hold.row H21 8 rfl
    obtain ⟨_, R56⟩ : ∃ F, Kd.R u8 wd50 F r7 (encIno (nums8 s) z xs) := Hold.row H21 4 rfl
    refine r (sa rfl) (re (sq (sq (rg (r (mv rfl) (r (mv z4) (cl go36 (eqByteS R55 R56 (by first | assumption | omega | (simp; omega))) (ac rfl (ac rfl an)) ?_)))))))
    rintro r wq53 ⟨rfl, cq53⟩
    have H22 : Hold w [] wq53 [rR u8 e18 r18 (marks 1 (encIno (nums8 s) z xs).length), rR i64 2 u11 (marks8 1 xs.length), rB g1 93 ([.string s, .int .i64 z, v]), rR i64 2 u5 xs, rR u8 e7 r7 (encIno (nums8 s) z xs), rB g5 96 ([.string s, .int .i64 z, u11]), rR i64 2 u29 xs, rR i64 2 u48 xs, rR u8 e50 r50 (encIno (nums8 s) z xs)] := Hold.t H21 cq53
    clear H21
    clear cq53
    refine r (nt rfl) (re ?_)
    refine cf ((rfl : _ = Value.bool (!(decide (encIno (nums8 s) z xs = encIno (nums8 s) z xs)))).trans (congrArg Value.bool (show (!(decide (encIno (nums8 s) z xs = encIno (nums8 s) z xs))) = false from (by rw [decide_eq_true rfl]; rfl)))) ?_
    refine sk (sq (rg (r (sa rfl) (re (rt ?_)))))
    exact fin1 (v := .bool true) Try.results16 rfl ⟨rfl, Hold.ch H22⟩
end Go.Proofs.Ytgpcanjmgdmdhaa
