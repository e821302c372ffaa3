/-
  THE LAW'S WALK: DecodeInode. No condition.
-/
import Derived.Test.YtgpcanjmgdmdhaaDoor35
import Derived.Test.YtgpcanjmgdmdhaaDoor61
namespace Go.Proofs.YtgpcanjmgdmdhaaDoor
open Go Go.Eng
set_option maxRecDepth 100000
set_option maxHeartbeats 4000000
set_option linter.unusedVariables false
set_option linter.unusedSimpArgs false
theorem eqInodeResult {w : World} {F G : List Nat} {a b : Bool} {s t : ByteArray} {z y : Int} {v u : Value} {xs ys : List Int} (hx : i64.R w F v xs) (hy : i64.R w G u ys) (lx : xs.length ≤ 1000000000) : Ret Tryd.prog 10 #[.agg #[.bool a, .string s, .int .i64 z, v], .agg #[.bool b, .string t, .int .i64 y, u]] w (fun r w' => r = .bool (decide ((a, s, z, xs) = (b, t, y, ys))) ∧ Ch [] w w') := by
  refine enter Tryd.func10 rfl Tryd.ntmps10 (by rfl) (by rfl) ?_
  have H0 : Hold w [] w [] := Hold.start w
  refine sq (rg (ef (xbx (t := 27) rfl rfl) ?_))
  rintro _ w1 ⟨g2, e1, rfl, -, b1, c1⟩
  have H1 : Hold w [] w1 [rB g2 27 ([.bool a, .string s, .int .i64 z, v])] := Hold.newB H0 e1 b1 c1
  clear H0
  clear e1 b1 c1
  refine ef (xbx (t := 27) rfl rfl) ?_
  rintro _ w2 ⟨g3, e2, rfl, -, b2, c2⟩
  have H2 : Hold w [] w2 [rB g2 27 ([.bool a, .string s, .int .i64 z, v]), rB g3 27 ([.bool b, .string t, .int .i64 y, u])] := Hold.newB H1 e2 b2 c2
  clear H1
  clear e2 b2 c2
  have b3 : B w2 g2 27 ([.bool a, .string s, .int .i64 z, v]) := Hold.blk H2 0 rfl
  have b4 : B w2 g3 27 ([.bool b, .string t, .int .i64 y, u]) := Hold.blk H2 1 rfl
  refine r (sa rfl) (re (sq (sq (rg (r (fa Tryd.underlying27 rfl ti4 rfl rfl) (r (ldb Tryd.underlying4 rfl rfl b3 rfl) (r (fa Tryd.underlying27 rfl ti4 rfl rfl) (r (ldb Tryd.underlying4 rfl rfl b4 rfl) (r (bne_ Tryd.underlying4 rfl rfl) (re ?_))))))))))
  refine cd rfl (fun h => ?_) (fun h => ?_)
  · refine sq (rg (r (sa rfl) (re (rt ?_))))
    exact fin1 (v := .bool false) Tryd.results10 rfl ⟨congrArg Value.bool (decide_eq_false (fun e => by simp only [Prod.mk.injEq] at e; simp [e.1] at h)).symm, Hold.ch H2⟩
  · have hab : a = b := by simpa using h
    refine sk (sq (sq (rg (r (fa Tryd.underlying27 rfl ti25 rfl rfl) (r (lab [.string s, .int .i64 z, v] Tryd.underlying25 rfl ti25 rfl b3 rfl rfl) (r (fa Tryd.underlying27 rfl ti25 rfl rfl) (r (lab [.string t, .int .i64 y, u] Tryd.underlying25 rfl ti25 rfl b4 rfl rfl) (cl go48 (eqInode (hx.t (Hold.ch H2)) (hy.t (Hold.ch H2)) lx) (ac rfl (ac rfl an)) ?_))))))))
    rintro r wq ⟨rfl, cq⟩
    have H3 : Hold w [] wq [rB g2 27 ([.bool a, .string s, .int .i64 z, v]), rB g3 27 ([.bool b, .string t, .int .i64 y, u])] := Hold.t H2 cq
    clear H2
    clear cq
    refine r (nt rfl) (re ?_)
    refine cpn rfl (fun h2 => ?_) (fun h2 => ?_)
    · refine sq ?_
      refine gen (fun ρ => ρ 4 = .bool false ∧ True) ⟨rfl, trivial⟩ ?_
      rintro ρ ⟨z4, -⟩
      refine rg (r (sa rfl) (re (rt ?_)))
      exact fin1 (v := .bool false) Tryd.results10 rfl ⟨congrArg Value.bool (decide_eq_false (fun e => h2 (by simp only [Prod.mk.injEq] at e ⊢; exact e.2))).symm, Hold.ch H3⟩
    · refine sk (sq ?_)
      refine gen (fun ρ => ρ 4 = .bool false ∧ True) ⟨rfl, trivial⟩ ?_
      rintro ρ ⟨z4, -⟩
      refine rg (r (sa rfl) (re (rt ?_)))
      exact fin1 (v := .bool true) Tryd.results10 rfl ⟨congrArg Value.bool (decide_eq_true (by simp only [Prod.mk.injEq] at h2 ⊢; exact ⟨hab, h2⟩)).symm, Hold.ch H3⟩
theorem markInodeResult_H {w : World} {F : List Nat} {b : Bool} {s : ByteArray} {z : Int} {v : Value} {xs : List Int} {k : Int} {e : TypeId} (h : Hs w [rR i64 e v xs] F) (n : F.Nodup) (hk : 0 ≤ k ∧ k ≤ 1000000000) (lx : xs.length ≤ 1000000000) :
    Ret Tryd.prog 13 #[.agg #[.bool b, .string s, .int .i64 z, v], .int .i64 k] w (fun r w' => r = .int .i64 (k + xs.length) ∧ Hold w F w' [rR i64 e v (marks8 k xs.length)]) := by
  refine enter Tryd.func13 rfl Tryd.ntmps13 (by rfl) (by rfl) ?_
  have H0 : Hold w F w [rR i64 e v xs] := Hold.begin h n
  refine sq (rg (ef (xbx (t := 27) rfl rfl) ?_))
  rintro _ w1 ⟨g2, e1, rfl, -, b1, c1⟩
  have H1 : Hold w F w1 [rR i64 e v xs, rB g2 27 ([.bool b, .string s, .int .i64 z, v])] := Hold.newB H0 e1 b1 c1
  clear H0
  clear e1 b1 c1
  have b2 : B w1 g2 27 ([.bool b, .string s, .int .i64 z, v]) := Hold.blk H1 1 rfl
  obtain ⟨F3, hF3, n3, s3, K3⟩ := Hold.front (Γ := [rR i64 e v xs]) (Δ := [rB g2 27 ([.bool b, .string s, .int .i64 z, v])]) H1
  refine r (sa rfl) (re (sq (rg (r (fa Tryd.underlying27 rfl ti25 rfl rfl) (r (lab [.string s, .int .i64 z, v] Tryd.underlying25 rfl ti25 rfl b2 rfl rfl) (r (mv rfl) (cl go49 (markInode_H hF3 n3 (by omega) lx) (ac rfl (ac rfl an)) ?_)))))))
  rintro r wq ⟨rfl, Hq⟩
  have H2 : Hold w F wq [rR i64 e v (marks8 k xs.length), rB g2 27 ([.bool b, .string s, .int .i64 z, v])] := Hold.call K3 Hq
  clear H1
  clear K3 hF3 n3 s3
  clear Hq
  refine r (sa rfl) (re (sq (rg (r (mv rfl) (r (sa rfl) (re (rt ?_)))))))
  have H3 : Hold w F wq [rR i64 e v (marks8 k xs.length)] := (show Hold w F wq ([rR i64 e v (marks8 k xs.length)] ++ [rB g2 27 ([.bool b, .string s, .int .i64 z, v])]) from Hold.re H2 [0, 1] (by kernel_rfl) (by rfl)).drop
  clear H2
  exact fin1 (v := .int .i64 (k + (xs.length : Int))) Tryd.results13 rfl ⟨rfl, H3⟩
theorem heldInode {w : World} {F : List Nat} {b : Bool} {s : ByteArray} {z : Int} {v : Value} {n : Nat} {k : Int} (hx : i64.R w F v (marks8 k n)) (hk : 0 ≤ k ∧ k ≤ 1000000000) (hln : n ≤ 1000000000) :
    Ret Tryd.prog 50 #[.agg #[.string s, .int .i64 z, v], .int .i64 k] w (fun r w' => r = .int .i64 (k + n) ∧ Ch [] w w') := by
  refine enter Tryd.func50 rfl Tryd.ntmps50 (by rfl) (by rfl) ?_
  have H0 : Hold w [] w [] := Hold.start w
  refine sq (rg (ef (xbx (t := 25) rfl rfl) ?_))
  rintro _ w1 ⟨g2, e1, rfl, -, b1, c1⟩
  have H1 : Hold w [] w1 [rB g2 25 ([.string s, .int .i64 z, v])] := Hold.newB H0 e1 b1 c1
  clear H0
  clear e1 b1 c1
  have b2 : B w1 g2 25 ([.string s, .int .i64 z, v]) := Hold.blk H1 0 rfl
  refine r (sa rfl) (re (sq (rg (r (fa Tryd.underlying25 rfl ti23 rfl rfl) (r (ldb Tryd.underlying23 rfl rfl b2 rfl) (r (mv rfl) (cl go83 (heldInt64S (n := n) (hx.t (Hold.ch H1)) (by omega) (by first | assumption | omega | (simp; omega))) (ac rfl (ac rfl an)) ?_)))))))
  rintro r wh3 ⟨rfl, ch3⟩
  have H2 : Hold w [] wh3 [rB g2 25 ([.string s, .int .i64 z, v])] := Hold.t H1 ch3
  clear H1
  clear ch3
  refine r (sa rfl) (re (sq (sq (rg (r (mv rfl) (r (bi rfl rfl rfl) (re ?_)))))))
  refine cf ((rfl : _ = Value.bool (decide ((k + ((n : Nat) : Int)) < 0))).trans (congrArg Value.bool (show (decide ((k + ((n : Nat) : Int)) < 0)) = false from decide_eq_false (by omega)))) ?_
  refine sk (sq (rg (r (mv rfl) (r (sa rfl) (re (rt ?_))))))
  exact fin1 (v := .int .i64 (k + ((n : Nat) : Int))) Tryd.results50 rfl ⟨rfl, Hold.ch H2⟩
theorem heldInodeResult {w : World} {F : List Nat} {b : Bool} {s : ByteArray} {z : Int} {v : Value} {n : Nat} {k : Int} (hx : i64.R w F v (marks8 k n)) (hk : 0 ≤ k ∧ k ≤ 1000000000) (hln : n ≤ 1000000000) :
    Ret Tryd.prog 14 #[.agg #[.bool b, .string s, .int .i64 z, v], .int .i64 k] w (fun r w' => r = .int .i64 (k + n) ∧ Ch [] w w') := by
  refine enter Tryd.func14 rfl Tryd.ntmps14 (by rfl) (by rfl) ?_
  have H0 : Hold w [] w [] := Hold.start w
  refine sq (rg (ef (xbx (t := 27) rfl rfl) ?_))
  rintro _ w1 ⟨g2, e1, rfl, -, b1, c1⟩
  have H1 : Hold w [] w1 [rB g2 27 ([.bool b, .string s, .int .i64 z, v])] := Hold.newB H0 e1 b1 c1
  clear H0
  clear e1 b1 c1
  have b2 : B w1 g2 27 ([.bool b, .string s, .int .i64 z, v]) := Hold.blk H1 0 rfl
  refine r (sa rfl) (re (sq (rg (r (fa Tryd.underlying27 rfl ti25 rfl rfl) (r (lab [.string s, .int .i64 z, v] Tryd.underlying25 rfl ti25 rfl b2 rfl rfl) (r (mv rfl) (cl go50 ((heldInode (b := b) (hx.t (Hold.ch H1)) (by omega) hln)) (ac rfl (ac rfl an)) ?_)))))))
  rintro r wq ⟨rfl, cq⟩
  have H2 : Hold w [] wq [rB g2 27 ([.bool b, .string s, .int .i64 z, v])] := Hold.t H1 cq
  clear H1
  clear cq
  refine r (sa rfl) (re (sq (sq (rg (r (mv rfl) (r (bi rfl rfl rfl) (re ?_)))))))
  refine cf ((rfl : _ = Value.bool (decide ((k + (n : Int)) < 0))).trans (congrArg Value.bool (show (decide ((k + (n : Int)) < 0)) = false from decide_eq_false (by omega)))) ?_
  refine sk (sq (rg (r (mv rfl) (r (sa rfl) (re (rt ?_))))))
  exact fin1 (v := .int .i64 (k + (n : Int))) Tryd.results14 rfl ⟨rfl, Hold.ch H2⟩
theorem w_FnExactDecodeInode {w : World} {F : List Nat} {v : Value} {xs : List Int} (hx : u8.R w F v xs) (l0 : xs.length ≤ 9223372036854775807) (ok : ok8 xs) :
    Ret Tryd.prog 3 #[v] w (fun r w' => r = .bool true ∧ Ch [] w w') := by
  refine enter Tryd.func3 rfl Tryd.ntmps3 (by rfl) (by rfl) ?_
  have H0 : Hold w [] w [] := Hold.start w
  refine sq (rg (r (sa rfl) (re (sq (sq (rg (r (mv rfl) (r (ln Tryd.underlying22 rfl ((hx.t (Hold.ch H0)))) (r (bi rfl rfl rfl) (re ?_))))))))))
  refine cp rfl (fun h => ?_) (fun h => ?_)
  · refine sq (rg (r (sa rfl) (re (rt ?_))))
    exact fin1 (v := .bool true) Tryd.results3 rfl ⟨rfl, Hold.ch H0⟩
  · have lx : xs.length ≤ 1000000000 := by omega
    have lD : (if decI xs then inLs xs else []).length ≤ 1000 := by
      split
      · rename_i hD; have := hD.2.1.2.2; rw [inL_len]; omega
      · simp
    refine sk (sq (rg (r (mv rfl) (cl go8 (toByteS_H (hx.t (Hold.ch H0)) (by first | assumption | omega | (simp; omega))) (ac rfl an) ?_))))
    rintro r1 wt1 Ht1
    have H1 : Hold w [] wt1 [rR u8 5 r1 xs] := Hold.news H0 Ht1
    clear H0
    clear Ht1
    obtain ⟨_, R5⟩ : ∃ F, Kd.R u8 wt1 F r1 xs := Hold.row H1 0 rfl
    refine cl go7 (spec_DecodeInode R5 (by first | assumption | omega | (simp; omega)) (by assumption)) (ac rfl an) ?_
    rintro r wd3 ⟨u3, rfl, Hd3⟩
    have H2 : Hold w [] wd3 [rR u8 5 r1 xs, rR i64 2 u3 (if decI xs then inLs xs else [])] := Hold.news H1 Hd3
    clear H1
    clear Hd3
    refine ef (xal ti27) ?_
    rintro _ w6 ⟨g3, e6, rfl, -, b6, c6⟩
    have H3 : Hold w [] w6 [rR u8 5 r1 xs, rR i64 2 u3 (if decI xs then inLs xs else []), rB g3 27 ([.bool false, .string ⟨#[]⟩, .int .i64 0, .slice none 0 0])] := Hold.newB H2 e6 b6 c6
    clear H2
    clear e6 b6 c6
    have b7 : B w6 g3 27 ([.bool false, .string ⟨#[]⟩, .int .i64 0, .slice none 0 0]) := Hold.blk H3 2 rfl
    obtain ⟨_, R9⟩ : ∃ F, Kd.R i64 w6 F u3 (if decI xs then inLs xs else []) := Hold.row H3 1 rfl
    refine ef0 (xst (vs := [.bool (decide (decI xs)), .string (if decI xs then mkS (inN xs) else ⟨#[]⟩), .int .i64 (if decI xs then inZ xs else 0), u3]) ti27 rfl rfl rfl b7 rfl (Nat.le_of_ble_eq_true rfl) (oc rfl (oc rfl (oc rfl (oc (R9).oneCell on))))) ?_
    rintro w8 ⟨-, b8, c8⟩
    have H4 : Hold w [] w8 [rR u8 5 r1 xs, rR i64 2 u3 (if decI xs then inLs xs else []), rB g3 27 ([.bool (decide (decI xs)), .string (if decI xs then mkS (inN xs) else ⟨#[]⟩), .int .i64 (if decI xs then inZ xs else 0), u3])] := Hold.setB H3 2 rfl b8 c8 rfl
    clear H3
    clear b8 c8
    refine re (sq (rg (r (mv rfl) (cl go8 (toByteS_H (hx.t (Hold.ch H4)) (by first | assumption | omega | (simp; omega))) (ac rfl an) ?_))))
    rintro r10 wt10 Ht10
    have H5 : Hold w [] wt10 [rR u8 5 r1 xs, rR i64 2 u3 (if decI xs then inLs xs else []), rB g3 27 ([.bool (decide (decI xs)), .string (if decI xs then mkS (inN xs) else ⟨#[]⟩), .int .i64 (if decI xs then inZ xs else 0), u3]), rR u8 5 r10 xs] := Hold.news H4 Ht10
    clear H4
    clear Ht10
    refine r (sa rfl) (re (sq ?_))
    refine gen (fun ρ => ρ 0 = v ∧ ρ 2 = .bool false ∧ ρ 3 = .pointer (some ⟨g3, 0, none⟩) ∧ ρ 4 = r10 ∧ True) ⟨rfl, rfl, rfl, rfl, trivial⟩ ?_
    rintro ρ ⟨z0, z2, z3, z4, -⟩
    obtain ⟨_, R14⟩ : ∃ F, Kd.R u8 wt10 F r10 xs := Hold.row H5 3 rfl
    refine rg (r (mv z4) (cl go9 (impl_DecodeInode R14 (by first | assumption | omega | (simp; omega)) (by assumption)) (ac rfl an) ?_))
    rintro r wd12 ⟨u12, rfl, Hd12⟩
    have H6 : Hold w [] wd12 [rR u8 5 r1 xs, rR i64 2 u3 (if decI xs then inLs xs else []), rB g3 27 ([.bool (decide (decI xs)), .string (if decI xs then mkS (inN xs) else ⟨#[]⟩), .int .i64 (if decI xs then inZ xs else 0), u3]), rR u8 5 r10 xs, rR i64 2 u12 (if decI xs then inLs xs else [])] := Hold.news H5 Hd12
    clear H5
    clear Hd12
    refine ef (xal ti27) ?_
    rintro _ w15 ⟨g5, e15, rfl, -, b15, c15⟩
    have H7 : Hold w [] w15 [rR u8 5 r1 xs, rR i64 2 u3 (if decI xs then inLs xs else []), rB g3 27 ([.bool (decide (decI xs)), .string (if decI xs then mkS (inN xs) else ⟨#[]⟩), .int .i64 (if decI xs then inZ xs else 0), u3]), rR u8 5 r10 xs, rR i64 2 u12 (if decI xs then inLs xs else []), rB g5 27 ([.bool false, .string ⟨#[]⟩, .int .i64 0, .slice none 0 0])] := Hold.newB H6 e15 b15 c15
    clear H6
    clear e15 b15 c15
    have b16 : B w15 g5 27 ([.bool false, .string ⟨#[]⟩, .int .i64 0, .slice none 0 0]) := Hold.blk H7 5 rfl
    obtain ⟨_, R18⟩ : ∃ F, Kd.R i64 w15 F u12 (if decI xs then inLs xs else []) := Hold.row H7 4 rfl
    refine ef0 (xst (vs := [.bool (decide (decI xs)), .string (if decI xs then mkS (inN xs) else ⟨#[]⟩), .int .i64 (if decI xs then inZ xs else 0), u12]) ti27 rfl rfl rfl b16 rfl (Nat.le_of_ble_eq_true rfl) (oc rfl (oc rfl (oc rfl (oc (R18).oneCell on))))) ?_
    rintro w17 ⟨-, b17, c17⟩
    have H8 : Hold w [] w17 [rR u8 5 r1 xs, rR i64 2 u3 (if decI xs then inLs xs else []), rB g3 27 ([.bool (decide (decI xs)), .string (if decI xs then mkS (inN xs) else ⟨#[]⟩), .int .i64 (if decI xs then inZ xs else 0), u3]), rR u8 5 r10 xs, rR i64 2 u12 (if decI xs then inLs xs else []), rB g5 27 ([.bool (decide (decI xs)), .string (if decI xs then mkS (inN xs) else ⟨#[]⟩), .int .i64 (if decI xs then inZ xs else 0), u12])] := Hold.setB H7 5 rfl b17 c17 rfl
    clear H7
    clear b17 c17
    have b19 : B w17 g5 27 ([.bool (decide (decI xs)), .string (if decI xs then mkS (inN xs) else ⟨#[]⟩), .int .i64 (if decI xs then inZ xs else 0), u12]) := Hold.blk H8 5 rfl
    have b20 : B w17 g3 27 ([.bool (decide (decI xs)), .string (if decI xs then mkS (inN xs) else ⟨#[]⟩), .int .i64 (if decI xs then inZ xs else 0), u3]) := Hold.blk H8 2 rfl
    obtain ⟨_, R23⟩ : ∃ F, Kd.R i64 w17 F u12 (if decI xs then inLs xs else []) := Hold.row H8 4 rfl
    obtain ⟨_, R24⟩ : ∃ F, Kd.R i64 w17 F u3 (if decI xs then inLs xs else []) := Hold.row H8 1 rfl
    refine re (sq (sq (rg (r (lab [.bool (decide (decI xs)), .string (if decI xs then mkS (inN xs) else ⟨#[]⟩), .int .i64 (if decI xs then inZ xs else 0), u12] Tryd.underlying27 rfl ti27 rfl b19 rfl rfl) (r (lab [.bool (decide (decI xs)), .string (if decI xs then mkS (inN xs) else ⟨#[]⟩), .int .i64 (if decI xs then inZ xs else 0), u3] Tryd.underlying27 rfl ti27 z3 b20 rfl rfl) (cl go10 (eqInodeResult R23 R24 (by first | assumption | omega | (simp; omega))) (ac rfl (ac rfl an)) ?_))))))
    rintro r wq21 ⟨rfl, cq21⟩
    have H9 : Hold w [] wq21 [rR u8 5 r1 xs, rR i64 2 u3 (if decI xs then inLs xs else []), rB g3 27 ([.bool (decide (decI xs)), .string (if decI xs then mkS (inN xs) else ⟨#[]⟩), .int .i64 (if decI xs then inZ xs else 0), u3]), rR u8 5 r10 xs, rR i64 2 u12 (if decI xs then inLs xs else []), rB g5 27 ([.bool (decide (decI xs)), .string (if decI xs then mkS (inN xs) else ⟨#[]⟩), .int .i64 (if decI xs then inZ xs else 0), u12])] := Hold.t H8 cq21
    clear H8
    clear cq21
    refine r (nt rfl) (re ?_)
    refine cf ((rfl : _ = Value.bool (!(decide ((decide (decI xs), if decI xs then mkS (inN xs) else ⟨#[]⟩, if decI xs then inZ xs else 0, if decI xs then inLs xs else []) = (decide (decI xs), if decI xs then mkS (inN xs) else ⟨#[]⟩, if decI xs then inZ xs else 0, if decI xs then inLs xs else []))))).trans (congrArg Value.bool (show (!(decide ((decide (decI xs), if decI xs then mkS (inN xs) else ⟨#[]⟩, if decI xs then inZ xs else 0, if decI xs then inLs xs else []) = (decide (decI xs), if decI xs then mkS (inN xs) else ⟨#[]⟩, if decI xs then inZ xs else 0, if decI xs then inLs xs else [])))) = false from (by rw [decide_eq_true rfl]; rfl)))) ?_
    refine sk (sq (sq (rg (r (mv z4) (r (mv z0) (cl go8 (toByteS_H (hx.t (Hold.ch H9)) (by first | assumption | omega | (simp; omega))) (ac rfl an) ?_))))))
    rintro r25 wt25 Ht25
    have H10 : Hold w [] wt25 [rR u8 5 r1 xs, rR i64 2 u3 (if decI xs then inLs xs else []), rB g3 27 ([.bool (decide (decI xs)), .string (if decI xs then mkS (inN xs) else ⟨#[]⟩), .int .i64 (if decI xs then inZ xs else 0), u3]), rR u8 5 r10 xs, rR i64 2 u12 (if decI xs then inLs xs else []), rB g5 27 ([.bool (decide (decI xs)), .string (if decI xs then mkS (inN xs) else ⟨#[]⟩), .int .i64 (if decI xs then inZ xs else 0), u12]), rR u8 5 r25 xs] := Hold.news H9 Ht25
    clear H9
    clear Ht25
    obtain ⟨_, R29⟩ : ∃ F, Kd.R u8 wt25 F r10 xs := Hold.row H10 3 rfl
    obtain ⟨_, R30⟩ : ∃ F, Kd.R u8 wt25 F r25 xs := Hold.row H10 6 rfl
    refine cl go11 (eqByteS R29 R30 (by first | assumption | omega | (simp; omega))) (ac rfl (ac rfl an)) ?_
    rintro r wq27 ⟨rfl, cq27⟩
    have H11 : Hold w [] wq27 [rR u8 5 r1 xs, rR i64 2 u3 (if decI xs then inLs xs else []), rB g3 27 ([.bool (decide (decI xs)), .string (if decI xs then mkS (inN xs) else ⟨#[]⟩), .int .i64 (if decI xs then inZ xs else 0), u3]), rR u8 5 r10 xs, rR i64 2 u12 (if decI xs then inLs xs else []), rB g5 27 ([.bool (decide (decI xs)), .string (if decI xs then mkS (inN xs) else ⟨#[]⟩), .int .i64 (if decI xs then inZ xs else 0), u12]), rR u8 5 r25 xs] := Hold.t H10 cq27
    clear H10
    clear cq27
    refine r (nt rfl) (re ?_)
    refine cf ((rfl : _ = Value.bool (!(decide (xs = xs)))).trans (congrArg Value.bool (show (!(decide (xs = xs))) = false from (by rw [decide_eq_true rfl]; rfl)))) ?_
    refine sk (sq ?_)
    refine gen (fun ρ => ρ 0 = v ∧ ρ 2 = .bool false ∧ ρ 3 = .pointer (some ⟨g3, 0, none⟩) ∧ ρ 4 = r10 ∧ ρ 5 = .pointer (some ⟨g5, 0, none⟩) ∧ True) ⟨z0, z2, z3, z4, rfl, trivial⟩ ?_
    rintro ρ ⟨z0, z2, z3, z4, z5, -⟩
    have H12 : Hold w [] wq27 [rR u8 5 r10 xs, rR u8 5 r1 xs, rR i64 2 u3 (if decI xs then inLs xs else []), rB g3 27 ([.bool (decide (decI xs)), .string (if decI xs then mkS (inN xs) else ⟨#[]⟩), .int .i64 (if decI xs then inZ xs else 0), u3]), rR i64 2 u12 (if decI xs then inLs xs else []), rB g5 27 ([.bool (decide (decI xs)), .string (if decI xs then mkS (inN xs) else ⟨#[]⟩), .int .i64 (if decI xs then inZ xs else 0), u12]), rR u8 5 r25 xs] := Hold.re H11 [3, 0, 1, 2, 4, 5, 6] (by kernel_rfl) (by rfl)
    clear H11
    obtain ⟨F32, hF32, n32, s32, K32⟩ := Hold.front (Γ := [rR u8 5 r10 xs]) (Δ := [rR u8 5 r1 xs, rR i64 2 u3 (if decI xs then inLs xs else []), rB g3 27 ([.bool (decide (decI xs)), .string (if decI xs then mkS (inN xs) else ⟨#[]⟩), .int .i64 (if decI xs then inZ xs else 0), u3]), rR i64 2 u12 (if decI xs then inLs xs else []), rB g5 27 ([.bool (decide (decI xs)), .string (if decI xs then mkS (inN xs) else ⟨#[]⟩), .int .i64 (if decI xs then inZ xs else 0), u12]), rR u8 5 r25 xs]) H12
    refine rg (r (sa rfl) (re (sq (rg (r (mv z4) (r (mv rfl) (cl go12 (markByteS_H hF32 n32 (by omega) (by first | assumption | omega | (simp; omega))) (ac rfl (ac rfl an)) ?_)))))))
    rintro r wm31 ⟨rfl, Hm31⟩
    have H13 : Hold w [] wm31 [rR u8 5 r10 (marks 1 xs.length), rR u8 5 r1 xs, rR i64 2 u3 (if decI xs then inLs xs else []), rB g3 27 ([.bool (decide (decI xs)), .string (if decI xs then mkS (inN xs) else ⟨#[]⟩), .int .i64 (if decI xs then inZ xs else 0), u3]), rR i64 2 u12 (if decI xs then inLs xs else []), rB g5 27 ([.bool (decide (decI xs)), .string (if decI xs then mkS (inN xs) else ⟨#[]⟩), .int .i64 (if decI xs then inZ xs else 0), u12]), rR u8 5 r25 xs] := Hold.call K32 Hm31
    clear H12
    clear K32 hF32 n32 s32
    clear Hm31
    refine r (sa rfl) (re (sq (sq (rg (r (mv rfl) (r (bi rfl rfl rfl) (r (mv rfl) ?_)))))))
    refine spf 34 rfl (show (decide ((1 + (xs.length : Int)) < 0)) = false from (decide_eq_false (by omega))) ?_
    have b33 : B wm31 g5 27 ([.bool (decide (decI xs)), .string (if decI xs then mkS (inN xs) else ⟨#[]⟩), .int .i64 (if decI xs then inZ xs else 0), u12]) := Hold.blk H13 5 rfl
    have b34 : B wm31 g3 27 ([.bool (decide (decI xs)), .string (if decI xs then mkS (inN xs) else ⟨#[]⟩), .int .i64 (if decI xs then inZ xs else 0), u3]) := Hold.blk H13 3 rfl
    obtain ⟨_, R37⟩ : ∃ F, Kd.R i64 wm31 F u12 (if decI xs then inLs xs else []) := Hold.row H13 4 rfl
    obtain ⟨_, R38⟩ : ∃ F, Kd.R i64 wm31 F u3 (if decI xs then inLs xs else []) := Hold.row H13 2 rfl
    refine gy rfl rfl rfl (r (lab [.bool (decide (decI xs)), .string (if decI xs then mkS (inN xs) else ⟨#[]⟩), .int .i64 (if decI xs then inZ xs else 0), u12] Tryd.underlying27 rfl ti27 z5 b33 rfl rfl) (gy rfl rfl rfl (r (lab [.bool (decide (decI xs)), .string (if decI xs then mkS (inN xs) else ⟨#[]⟩), .int .i64 (if decI xs then inZ xs else 0), u3] Tryd.underlying27 rfl ti27 z3 b34 rfl rfl) (gy rfl rfl rfl (cl go10 (eqInodeResult R37 R38 (by first | assumption | omega | (simp; omega))) (ac rfl (ac rfl an)) ?_)))))
    rintro r wq35 ⟨rfl, cq35⟩
    have H14 : Hold w [] wq35 [rR u8 5 r10 (marks 1 xs.length), rR u8 5 r1 xs, rR i64 2 u3 (if decI xs then inLs xs else []), rB g3 27 ([.bool (decide (decI xs)), .string (if decI xs then mkS (inN xs) else ⟨#[]⟩), .int .i64 (if decI xs then inZ xs else 0), u3]), rR i64 2 u12 (if decI xs then inLs xs else []), rB g5 27 ([.bool (decide (decI xs)), .string (if decI xs then mkS (inN xs) else ⟨#[]⟩), .int .i64 (if decI xs then inZ xs else 0), u12]), rR u8 5 r25 xs] := Hold.t H13 cq35
    clear H13
    clear cq35
    refine gy rfl rfl rfl (r (nt rfl) (r (pk rfl rfl) (re ?_)))
    refine cf ((rfl : _ = Value.bool (!(decide ((decide (decI xs), if decI xs then mkS (inN xs) else ⟨#[]⟩, if decI xs then inZ xs else 0, if decI xs then inLs xs else []) = (decide (decI xs), if decI xs then mkS (inN xs) else ⟨#[]⟩, if decI xs then inZ xs else 0, if decI xs then inLs xs else []))))).trans (congrArg Value.bool (show (!(decide ((decide (decI xs), if decI xs then mkS (inN xs) else ⟨#[]⟩, if decI xs then inZ xs else 0, if decI xs then inLs xs else []) = (decide (decI xs), if decI xs then mkS (inN xs) else ⟨#[]⟩, if decI xs then inZ xs else 0, if decI xs then inLs xs else [])))) = false from (by rw [decide_eq_true rfl]; rfl)))) ?_
    refine sk (sq ?_)
    refine gen (fun ρ => ρ 0 = v ∧ ρ 2 = .bool false ∧ ρ 3 = .pointer (some ⟨g3, 0, none⟩) ∧ ρ 5 = .pointer (some ⟨g5, 0, none⟩) ∧ True) ⟨z0, z2, z3, z5, trivial⟩ ?_
    rintro ρ ⟨z0, z2, z3, z5, -⟩
    have b39 : B wq35 g5 27 ([.bool (decide (decI xs)), .string (if decI xs then mkS (inN xs) else ⟨#[]⟩), .int .i64 (if decI xs then inZ xs else 0), u12]) := Hold.blk H14 5 rfl
    have H15 : Hold w [] wq35 [rR i64 2 u12 (if decI xs then inLs xs else []), rR u8 5 r10 (marks 1 xs.length), rR u8 5 r1 xs, rR i64 2 u3 (if decI xs then inLs xs else []), rB g3 27 ([.bool (decide (decI xs)), .string (if decI xs then mkS (inN xs) else ⟨#[]⟩), .int .i64 (if decI xs then inZ xs else 0), u3]), rB g5 27 ([.bool (decide (decI xs)), .string (if decI xs then mkS (inN xs) else ⟨#[]⟩), .int .i64 (if decI xs then inZ xs else 0), u12]), rR u8 5 r25 xs] := Hold.re H14 [4, 0, 1, 2, 3, 5, 6] (by kernel_rfl) (by rfl)
    clear H14
    obtain ⟨F41, hF41, n41, s41, K41⟩ := Hold.front (Γ := [rR i64 2 u12 (if decI xs then inLs xs else [])]) (Δ := [rR u8 5 r10 (marks 1 xs.length), rR u8 5 r1 xs, rR i64 2 u3 (if decI xs then inLs xs else []), rB g3 27 ([.bool (decide (decI xs)), .string (if decI xs then mkS (inN xs) else ⟨#[]⟩), .int .i64 (if decI xs then inZ xs else 0), u3]), rB g5 27 ([.bool (decide (decI xs)), .string (if decI xs then mkS (inN xs) else ⟨#[]⟩), .int .i64 (if decI xs then inZ xs else 0), u12]), rR u8 5 r25 xs]) H15
    refine rg (r (sa rfl) (re (sq (rg (r (lab [.bool (decide (decI xs)), .string (if decI xs then mkS (inN xs) else ⟨#[]⟩), .int .i64 (if decI xs then inZ xs else 0), u12] Tryd.underlying27 rfl ti27 z5 b39 rfl rfl) (r (mv rfl) (cl go13 (markInodeResult_H hF41 n41 (by omega) (by first | assumption | omega | (simp; omega))) (ac rfl (ac rfl an)) ?_)))))))
    rintro r wm40 ⟨rfl, Hm40⟩
    have H16 : Hold w [] wm40 [rR i64 2 u12 (marks8 1 (if decI xs then inLs xs else []).length), rR u8 5 r10 (marks 1 xs.length), rR u8 5 r1 xs, rR i64 2 u3 (if decI xs then inLs xs else []), rB g3 27 ([.bool (decide (decI xs)), .string (if decI xs then mkS (inN xs) else ⟨#[]⟩), .int .i64 (if decI xs then inZ xs else 0), u3]), rB g5 27 ([.bool (decide (decI xs)), .string (if decI xs then mkS (inN xs) else ⟨#[]⟩), .int .i64 (if decI xs then inZ xs else 0), u12]), rR u8 5 r25 xs] := Hold.call K41 Hm40
    clear H15
    clear K41 hF41 n41 s41
    clear Hm40
    have b42 : B wm40 g5 27 ([.bool (decide (decI xs)), .string (if decI xs then mkS (inN xs) else ⟨#[]⟩), .int .i64 (if decI xs then inZ xs else 0), u12]) := Hold.blk H16 5 rfl
    obtain ⟨_, R45⟩ : ∃ F, Kd.R i64 wm40 F u12 (marks8 1 (if decI xs then inLs xs else []).length) := Hold.row H16 0 rfl
    refine r (sa rfl) (re (sq (rg (r (sa rfl) (re (sq (rg (r (lab [.bool (decide (decI xs)), .string (if decI xs then mkS (inN xs) else ⟨#[]⟩), .int .i64 (if decI xs then inZ xs else 0), u12] Tryd.underlying27 rfl ti27 z5 b42 rfl rfl) (r (mv rfl) (cl go14 (heldInodeResult (b := decide (decI xs)) (n := (if decI xs then inLs xs else []).length) R45 (by omega) (by first | assumption | omega | (simp; omega))) (ac rfl (ac rfl an)) ?_))))))))))
    rintro r wh43 ⟨rfl, ch43⟩
    have H17 : Hold w [] wh43 [rR i64 2 u12 (marks8 1 (if decI xs then inLs xs else []).length), rR u8 5 r10 (marks 1 xs.length), rR u8 5 r1 xs, rR i64 2 u3 (if decI xs then inLs xs else []), rB g3 27 ([.bool (decide (decI xs)), .string (if decI xs then mkS (inN xs) else ⟨#[]⟩), .int .i64 (if decI xs then inZ xs else 0), u3]), rB g5 27 ([.bool (decide (decI xs)), .string (if decI xs then mkS (inN xs) else ⟨#[]⟩), .int .i64 (if decI xs then inZ xs else 0), u12]), rR u8 5 r25 xs] := Hold.t H16 ch43
    clear H16
    clear ch43
    refine r (sa rfl) (re (sq (sq ?_)))
    refine gen (fun ρ => ρ 0 = v ∧ ρ 2 = .bool false ∧ ρ 3 = .pointer (some ⟨g3, 0, none⟩) ∧ ρ 7 = .int .i64 (1 + ((if decI xs then inLs xs else []).length : Int)) ∧ ρ 8 = .int .i64 (1 + (((if decI xs then inLs xs else []).length : Nat) : Int)) ∧ True) ⟨z0, z2, z3, rfl, rfl, trivial⟩ ?_
    rintro ρ ⟨z0, z2, z3, z7, z8, -⟩
    refine rg (r (mv z8) (r (bi rfl rfl rfl) (re ?_)))
    refine cf ((rfl : _ = Value.bool (decide ((1 + (((if decI xs then inLs xs else []).length : Nat) : Int)) < 0))).trans (congrArg Value.bool (show (decide ((1 + (((if decI xs then inLs xs else []).length : Nat) : Int)) < 0)) = false from (decide_eq_false (by omega))))) ?_
    refine sk (sq (sq (rg (r (mv z8) (r (mv z7) (r (bi rfl rfl rfl) (re ?_)))))))
    refine cf ((rfl : _ = Value.bool (!decide ((1 + (((if decI xs then inLs xs else []).length : Nat) : Int)) = (1 + ((if decI xs then inLs xs else []).length : Int))))).trans (congrArg Value.bool (show (!decide ((1 + (((if decI xs then inLs xs else []).length : Nat) : Int)) = (1 + ((if decI xs then inLs xs else []).length : Int)))) = false from (by rw [decide_eq_true (by omega)]; rfl)))) ?_
    refine sk (sq (rg (r (mv z0) (cl go8 (toByteS_H (hx.t (Hold.ch H17)) (by first | assumption | omega | (simp; omega))) (ac rfl an) ?_))))
    rintro r46 wt46 Ht46
    have H18 : Hold w [] wt46 [rR i64 2 u12 (marks8 1 (if decI xs then inLs xs else []).length), rR u8 5 r10 (marks 1 xs.length), rR u8 5 r1 xs, rR i64 2 u3 (if decI xs then inLs xs else []), rB g3 27 ([.bool (decide (decI xs)), .string (if decI xs then mkS (inN xs) else ⟨#[]⟩), .int .i64 (if decI xs then inZ xs else 0), u3]), rB g5 27 ([.bool (decide (decI xs)), .string (if decI xs then mkS (inN xs) else ⟨#[]⟩), .int .i64 (if decI xs then inZ xs else 0), u12]), rR u8 5 r25 xs, rR u8 5 r46 xs] := Hold.news H17 Ht46
    clear H17
    clear Ht46
    obtain ⟨_, R50⟩ : ∃ F, Kd.R u8 wt46 F r46 xs := Hold.row H18 7 rfl
    refine cl go9 (impl_DecodeInode R50 (by first | assumption | omega | (simp; omega)) (by assumption)) (ac rfl an) ?_
    rintro r wd48 ⟨u48, rfl, Hd48⟩
    have H19 : Hold w [] wd48 [rR i64 2 u12 (marks8 1 (if decI xs then inLs xs else []).length), rR u8 5 r10 (marks 1 xs.length), rR u8 5 r1 xs, rR i64 2 u3 (if decI xs then inLs xs else []), rB g3 27 ([.bool (decide (decI xs)), .string (if decI xs then mkS (inN xs) else ⟨#[]⟩), .int .i64 (if decI xs then inZ xs else 0), u3]), rB g5 27 ([.bool (decide (decI xs)), .string (if decI xs then mkS (inN xs) else ⟨#[]⟩), .int .i64 (if decI xs then inZ xs else 0), u12]), rR u8 5 r25 xs, rR u8 5 r46 xs, rR i64 2 u48 (if decI xs then inLs xs else [])] := Hold.news H18 Hd48
    clear H18
    clear Hd48
    refine ef (xal ti27) ?_
    rintro _ w51 ⟨g9, e51, rfl, -, b51, c51⟩
    have H20 : Hold w [] w51 [rR i64 2 u12 (marks8 1 (if decI xs then inLs xs else []).length), rR u8 5 r10 (marks 1 xs.length), rR u8 5 r1 xs, rR i64 2 u3 (if decI xs then inLs xs else []), rB g3 27 ([.bool (decide (decI xs)), .string (if decI xs then mkS (inN xs) else ⟨#[]⟩), .int .i64 (if decI xs then inZ xs else 0), u3]), rB g5 27 ([.bool (decide (decI xs)), .string (if decI xs then mkS (inN xs) else ⟨#[]⟩), .int .i64 (if decI xs then inZ xs else 0), u12]), rR u8 5 r25 xs, rR u8 5 r46 xs, rR i64 2 u48 (if decI xs then inLs xs else []), rB g9 27 ([.bool false, .string ⟨#[]⟩, .int .i64 0, .slice none 0 0])] := Hold.newB H19 e51 b51 c51
    clear H19
    clear e51 b51 c51
    have b52 : B w51 g9 27 ([.bool false, .string ⟨#[]⟩, .int .i64 0, .slice none 0 0]) := Hold.blk H20 9 rfl
    obtain ⟨_, R54⟩ : ∃ F, Kd.R i64 w51 F u48 (if decI xs then inLs xs else []) := Hold.row H20 8 rfl
    refine ef0 (xst (vs := [.bool (decide (decI xs)), .string (if decI xs then mkS (inN xs) else ⟨#[]⟩), .int .i64 (if decI xs then inZ xs else 0), u48]) ti27 rfl rfl rfl b52 rfl (Nat.le_of_ble_eq_true rfl) (oc rfl (oc rfl (oc rfl (oc (R54).oneCell on))))) ?_
    rintro w53 ⟨-, b53, c53⟩
    have H21 : Hold w [] w53 [rR i64 2 u12 (marks8 1 (if decI xs then inLs xs else []).length), rR u8 5 r10 (marks 1 xs.length), rR u8 5 r1 xs, rR i64 2 u3 (if decI xs then inLs xs else []), rB g3 27 ([.bool (decide (decI xs)), .string (if decI xs then mkS (inN xs) else ⟨#[]⟩), .int .i64 (if decI xs then inZ xs else 0), u3]), rB g5 27 ([.bool (decide (decI xs)), .string (if decI xs then mkS (inN xs) else ⟨#[]⟩), .int .i64 (if decI xs then inZ xs else 0), u12]), rR u8 5 r25 xs, rR u8 5 r46 xs, rR i64 2 u48 (if decI xs then inLs xs else []), rB g9 27 ([.bool (decide (decI xs)), .string (if decI xs then mkS (inN xs) else ⟨#[]⟩), .int .i64 (if decI xs then inZ xs else 0), u48])] := Hold.setB H20 9 rfl b53 c53 rfl
    clear H20
    clear b53 c53
    have b55 : B w53 g9 27 ([.bool (decide (decI xs)), .string (if decI xs then mkS (inN xs) else ⟨#[]⟩), .int .i64 (if decI xs then inZ xs else 0), u48]) := Hold.blk H21 9 rfl
    have b56 : B w53 g3 27 ([.bool (decide (decI xs)), .string (if decI xs then mkS (inN xs) else ⟨#[]⟩), .int .i64 (if decI xs then inZ xs else 0), u3]) := Hold.blk H21 4 rfl
    obtain ⟨_, R59⟩ : ∃ F, Kd.R i64 w53 F u48 (if decI xs then inLs xs else []) := Hold.row H21 8 rfl
    obtain ⟨_, R60⟩ : ∃ F, Kd.R i64 w53 F u3 (if decI xs then inLs xs else []) := Hold.row H21 3 rfl
    refine re (sq (sq (rg (r (lab [.bool (decide (decI xs)), .string (if decI xs then mkS (inN xs) else ⟨#[]⟩), .int .i64 (if decI xs then inZ xs else 0), u48] Tryd.underlying27 rfl ti27 rfl b55 rfl rfl) (r (lab [.bool (decide (decI xs)), .string (if decI xs then mkS (inN xs) else ⟨#[]⟩), .int .i64 (if decI xs then inZ xs else 0), u3] Tryd.underlying27 rfl ti27 z3 b56 rfl rfl) (cl go10 (eqInodeResult R59 R60 (by first | assumption | omega | (simp; omega))) (ac rfl (ac rfl an)) ?_))))))
    rintro r wq57 ⟨rfl, cq57⟩
    have H22 : Hold w [] wq57 [rR i64 2 u12 (marks8 1 (if decI xs then inLs xs else []).length), rR u8 5 r10 (marks 1 xs.length), rR u8 5 r1 xs, rR i64 2 u3 (if decI xs then inLs xs else []), rB g3 27 ([.bool (decide (decI xs)), .string (if decI xs then mkS (inN xs) else ⟨#[]⟩), .int .i64 (if decI xs then inZ xs else 0), u3]), rB g5 27 ([.bool (decide (decI xs)), .string (if decI xs then mkS (inN xs) else ⟨#[]⟩), .int .i64 (if decI xs then inZ xs else 0), u12]), rR u8 5 r25 xs, rR u8 5 r46 xs, rR i64 2 u48 (if decI xs then inLs xs else []), rB g9 27 ([.bool (decide (decI xs)), .string (if decI xs then mkS (inN xs) else ⟨#[]⟩), .int .i64 (if decI xs then inZ xs else 0), u48])] := Hold.t H21 cq57
    clear H21
    clear cq57
    refine r (nt rfl) (re ?_)
    refine cf ((rfl : _ = Value.bool (!(decide ((decide (decI xs), if decI xs then mkS (inN xs) else ⟨#[]⟩, if decI xs then inZ xs else 0, if decI xs then inLs xs else []) = (decide (decI xs), if decI xs then mkS (inN xs) else ⟨#[]⟩, if decI xs then inZ xs else 0, if decI xs then inLs xs else []))))).trans (congrArg Value.bool (show (!(decide ((decide (decI xs), if decI xs then mkS (inN xs) else ⟨#[]⟩, if decI xs then inZ xs else 0, if decI xs then inLs xs else []) = (decide (decI xs), if decI xs then mkS (inN xs) else ⟨#[]⟩, if decI xs then inZ xs else 0, if decI xs then inLs xs else [])))) = false from (by rw [decide_eq_true rfl]; rfl)))) ?_
    refine sk (sq ?_)
    refine gen (fun ρ => ρ 2 = .bool false ∧ True) ⟨z2, trivial⟩ ?_
    rintro ρ ⟨z2, -⟩
    refine rg (r (sa rfl) (re (rt ?_)))
    exact fin1 (v := .bool true) Tryd.results3 rfl ⟨rfl, Hold.ch H22⟩
end Go.Proofs.YtgpcanjmgdmdhaaDoor
