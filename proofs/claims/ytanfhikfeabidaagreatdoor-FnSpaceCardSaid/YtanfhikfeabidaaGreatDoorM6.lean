/-
  SEVERAL TEXTS OF MY OWN IN ONE: 102, 24, 103. No condition.
-/
import Derived.Test.YtanfhikfeabidaaGreatDoorM5
import Derived.Test.YtanfhikfeabidaaGreatDoorM2
namespace Go.Eng
set_option linter.unusedVariables false
section
variable {P : Program} {ρ : Fr} {w : World} {d : Option Nat} {ty : TypeId} {pos : String} {af : Array Edge}
theorem bda {t e : TypeId} {m : Nat} {parts : Array (Nat × Operand)} {z ze : Value} {sz by_ bye : Nat} {L : List (Nat × List Value)} {r : List Value} (pl : List (Nat × Nat)) (hpl : pl = (List.range m).map fun i => (i, 1)) (ht : P.underlying t = some (.array m e)) (hi : TI P t z sz by_) (he : TI P e ze 1 bye) (hp : parts.toList.map (fun p => (p.1, (ev ρ p.2).cells.toList)) = L) (hr : fillL pl z.cells.toList L = some r) : Rn P ρ ⟨d, .build t parts, ty, pos, af, none⟩ w (.agg r.toArray) := by
  refine ⟨rfl, fun w' _ => ?_⟩
  subst hpl
  have hb : P.built t ((parts.map fun (i, x) => (i, ev ρ x)).toList) = some r.toArray := by
    have hm : ((parts.map fun (i, x) => (i, ev ρ x)).toList).map (fun p => (p.1, p.2.cells.toList)) = L := by
      rw [← hp]; simp
    obtain ⟨i0, hi0, hz, _, _⟩ := info_parts hi
    obtain ⟨i1, hi1, _, hsz1, _⟩ := he.size
    unfold Program.built
    rw [hi0, ht]
    simp only [hz, hi1]
    refine fill_L (fun i q h => ?_) hm hr
    rw [List.getElem?_map] at h
    rw [hsz1, Nat.mul_one]
    cases hx : (List.range m)[i]? with
    | none => simp [hx] at h
    | some j =>
      rw [hx] at h
      have := List.getElem?_eq_some_iff.1 hx
      simp at this
      simp at h
      rw [← h, this.2]
  simp only [execOp, Sem.run_bind, run_build w' t _ _ hb, Result.andThen_ok, Sem.run_pure]
theorem ixar {t e : TypeId} {n : Nat} {x i : Operand} {z : Value} {by_ g : Nat} {kd : IntKind} (j : Nat) (ht : P.underlying t = some (.array n e)) (hi : TI P e z 1 by_) (hx : ev ρ x = .pointer (some ⟨g, 0, none⟩)) (hj : ev ρ i = .int kd (j : Int)) (hlt : j < n) : Rn P ρ ⟨d, .indexAddr t x i, ty, pos, af, none⟩ w (.pointer (some ⟨g, j, none⟩)) := by
  obtain ⟨i0, hi0, _, hsz, _⟩ := hi.size
  refine ⟨rfl, fun w' _ => ?_⟩
  have h : (Addr.mk g 0 none).add (j * 1) = ⟨g, j, none⟩ := by rw [add_mk]; simp
  simp [execOp, Instr.indexAt, Instr.sureAddr, asIntOf, hx, hj, run_underlying ht, sizeOf, typeInfo, hi0, run_program, hsz, hlt]
  simpa using h
end
end Go.Eng
namespace Go.Proofs.YtanfhikfeabidaaGreatDoor
open Go Go.Eng
set_option maxRecDepth 100000
set_option maxHeartbeats 4000000
set_option linter.unusedVariables false
set_option linter.unusedSimpArgs false
abbrev eB : ByteArray := ⟨#[]⟩
theorem call_write_no {w : World} {F : List Nat} {ge gp gw gd gl gk : Nat} {tv : Value} {s b qn actv usd opn : Int} {rdf : Int → List Int} {tab : List (Int × Bool)} {wk du : List Kf} {pl : List (Value × List Int)} {nm dt : ByteArray} (h : Hs w [rB ge 60 ((eC s b gp gw gd tv qn actv usd opn gl gk)), rPl gp (logs s b + s * b) rdf, rR kE 115 tv tab, rMW gw (wk.map kfP), rMW gd (du.map kfP), rPool 2 pl, rB gl 2 ([.int .i64 (-1)])] F) (nd : F.Nodup) (hg : geo s b) (hsz : dt.size ≤ 1408) (hnm : okName (nums8 nm)) (hfk : findK wk nm = none) (lt : tab.length ≤ 2000) (hcap : s * b - 2 * b < usedN tab + (mN dt.size + 1 : Nat)) : Ret Tryz.prog 34 #[.pointer (some ⟨ge, 0, none⟩), .agg #[.int .i64 1, .string nm, .string dt, .int .i64 0]] w (fun r w' => r = ansV 24 noB ∧ Hold w F w' [rB ge 60 ((eC s b gp gw gd tv qn actv usd opn gl gk)), rPl gp (logs s b + s * b) rdf, rR kE 115 tv tab, rMW gw (wk.map kfP), rMW gd (du.map kfP), rPool 2 pl, rB gl 2 ([.int .i64 (-1)])]) := by
  refine enter Tryz.func34 rfl Tryz.ntmps34 (by rfl) (by rfl) ?_
  have H0 : Hold w F w [rB ge 60 ((eC s b gp gw gd tv qn actv usd opn gl gk)), rPl gp (logs s b + s * b) rdf, rR kE 115 tv tab, rMW gw (wk.map kfP), rMW gd (du.map kfP), rPool 2 pl, rB gl 2 ([.int .i64 (-1)])] := Hold.begin h nd
  have hns : nm.size ≤ 9223372036854775807 := by have := hnm.2.2; rw [nums8_len] at this; omega
  refine sq (rg (ef (xbx (t := 29) rfl rfl) ?_))
  rintro _ w1 ⟨g3, e1, rfl, -, b1, c1⟩
  have H1 : Hold w F w1 [rB ge 60 ((eC s b gp gw gd tv qn actv usd opn gl gk)), rPl gp (logs s b + s * b) rdf, rR kE 115 tv tab, rMW gw (wk.map kfP), rMW gd (du.map kfP), rPool 2 pl, rB gl 2 ([.int .i64 (-1)]), rB g3 29 ([.int .i64 1, .string nm, .string dt, .int .i64 0])] := Hold.newB H0 e1 b1 c1
  clear H0
  clear e1 b1 c1
  refine ef (xal ti42) ?_
  rintro _ w2 ⟨g4, e2, rfl, -, b2, c2⟩
  have H2 : Hold w F w2 [rB ge 60 ((eC s b gp gw gd tv qn actv usd opn gl gk)), rPl gp (logs s b + s * b) rdf, rR kE 115 tv tab, rMW gw (wk.map kfP), rMW gd (du.map kfP), rPool 2 pl, rB gl 2 ([.int .i64 (-1)]), rB g3 29 ([.int .i64 1, .string nm, .string dt, .int .i64 0]), rB g4 42 ([.int .i64 0, .string ⟨#[]⟩, .slice none 0 0, .int .i64 0, .int .i64 0, .int .i64 0, .int .i64 0, .int .i64 0, .int .i64 0])] := Hold.newB H1 e2 b2 c2
  clear H1
  clear e2 b2 c2
  refine re (sq (rg (r (mv rfl) (r (mf (vs := [.pointer (some ⟨ge, 0, none⟩)]) (cs := []) (ac rfl an) an) (r (mv rfl) (r (mf (vs := [.pointer (some ⟨ge, 0, none⟩)]) (cs := []) (ac rfl an) an) (r (mv rfl) (r (mf (vs := [.pointer (some ⟨ge, 0, none⟩)]) (cs := []) (ac rfl an) an) (r (mv rfl) (r (mf (vs := [.pointer (some ⟨ge, 0, none⟩)]) (cs := []) (ac rfl an) an) (r (mv rfl) (r (mf (vs := [.pointer (some ⟨ge, 0, none⟩)]) (cs := []) (ac rfl an) an) (r (mv rfl) (r (mf (vs := [.pointer (some ⟨ge, 0, none⟩)]) (cs := []) (ac rfl an) an) (r (mv rfl) (r (mf (vs := [.pointer (some ⟨ge, 0, none⟩)]) (cs := []) (ac rfl an) an) (r (mv rfl) (r (mf (vs := [.pointer (some ⟨ge, 0, none⟩)]) (cs := []) (ac rfl an) an) (r (bda (r := [.nilFunc, .func (.func 53) [.pointer (some ⟨ge, 0, none⟩)].toArray [].toArray, .func (.func 54) [.pointer (some ⟨ge, 0, none⟩)].toArray [].toArray, .func (.func 55) [.pointer (some ⟨ge, 0, none⟩)].toArray [].toArray, .func (.func 56) [.pointer (some ⟨ge, 0, none⟩)].toArray [].toArray, .func (.func 57) [.pointer (some ⟨ge, 0, none⟩)].toArray [].toArray, .func (.func 58) [.pointer (some ⟨ge, 0, none⟩)].toArray [].toArray, .func (.func 59) [.pointer (some ⟨ge, 0, none⟩)].toArray [].toArray, .func (.func 60) [.pointer (some ⟨ge, 0, none⟩)].toArray [].toArray]) [(0, 1), (1, 1), (2, 1), (3, 1), (4, 1), (5, 1), (6, 1), (7, 1), (8, 1)] (by decide) Tryz.underlying142 ti142 ti94 (pc (v := .func (.func 53) [.pointer (some ⟨ge, 0, none⟩)].toArray [].toArray) (c := [.func (.func 53) [.pointer (some ⟨ge, 0, none⟩)].toArray [].toArray]) rfl (cel1 rfl) (pc (v := .func (.func 54) [.pointer (some ⟨ge, 0, none⟩)].toArray [].toArray) (c := [.func (.func 54) [.pointer (some ⟨ge, 0, none⟩)].toArray [].toArray]) rfl (cel1 rfl) (pc (v := .func (.func 55) [.pointer (some ⟨ge, 0, none⟩)].toArray [].toArray) (c := [.func (.func 55) [.pointer (some ⟨ge, 0, none⟩)].toArray [].toArray]) rfl (cel1 rfl) (pc (v := .func (.func 56) [.pointer (some ⟨ge, 0, none⟩)].toArray [].toArray) (c := [.func (.func 56) [.pointer (some ⟨ge, 0, none⟩)].toArray [].toArray]) rfl (cel1 rfl) (pc (v := .func (.func 57) [.pointer (some ⟨ge, 0, none⟩)].toArray [].toArray) (c := [.func (.func 57) [.pointer (some ⟨ge, 0, none⟩)].toArray [].toArray]) rfl (cel1 rfl) (pc (v := .func (.func 58) [.pointer (some ⟨ge, 0, none⟩)].toArray [].toArray) (c := [.func (.func 58) [.pointer (some ⟨ge, 0, none⟩)].toArray [].toArray]) rfl (cel1 rfl) (pc (v := .func (.func 59) [.pointer (some ⟨ge, 0, none⟩)].toArray [].toArray) (c := [.func (.func 59) [.pointer (some ⟨ge, 0, none⟩)].toArray [].toArray]) rfl (cel1 rfl) (pc (v := .func (.func 60) [.pointer (some ⟨ge, 0, none⟩)].toArray [].toArray) (c := [.func (.func 60) [.pointer (some ⟨ge, 0, none⟩)].toArray [].toArray]) rfl (cel1 rfl) pn)))))))) (by kernel_rfl)) (ef (xal ti142) ?_))))))))))))))))))))
  rintro _ w3 ⟨g5, e3, rfl, -, b3, c3⟩
  have H3 : Hold w F w3 [rB ge 60 ((eC s b gp gw gd tv qn actv usd opn gl gk)), rPl gp (logs s b + s * b) rdf, rR kE 115 tv tab, rMW gw (wk.map kfP), rMW gd (du.map kfP), rPool 2 pl, rB gl 2 ([.int .i64 (-1)]), rB g3 29 ([.int .i64 1, .string nm, .string dt, .int .i64 0]), rB g4 42 ([.int .i64 0, .string ⟨#[]⟩, .slice none 0 0, .int .i64 0, .int .i64 0, .int .i64 0, .int .i64 0, .int .i64 0, .int .i64 0]), rB g5 142 ([.nilFunc, .nilFunc, .nilFunc, .nilFunc, .nilFunc, .nilFunc, .nilFunc, .nilFunc, .nilFunc])] := Hold.newB H2 e3 b3 c3
  clear H2
  clear e3 b3 c3
  have b4 : B w3 g5 142 ([.nilFunc, .nilFunc, .nilFunc, .nilFunc, .nilFunc, .nilFunc, .nilFunc, .nilFunc, .nilFunc]) := Hold.blk H3 9 rfl
  refine ef0 (xst (vs := [.nilFunc, .func (.func 53) [.pointer (some ⟨ge, 0, none⟩)].toArray [].toArray, .func (.func 54) [.pointer (some ⟨ge, 0, none⟩)].toArray [].toArray, .func (.func 55) [.pointer (some ⟨ge, 0, none⟩)].toArray [].toArray, .func (.func 56) [.pointer (some ⟨ge, 0, none⟩)].toArray [].toArray, .func (.func 57) [.pointer (some ⟨ge, 0, none⟩)].toArray [].toArray, .func (.func 58) [.pointer (some ⟨ge, 0, none⟩)].toArray [].toArray, .func (.func 59) [.pointer (some ⟨ge, 0, none⟩)].toArray [].toArray, .func (.func 60) [.pointer (some ⟨ge, 0, none⟩)].toArray [].toArray]) ti142 rfl rfl rfl b4 rfl (Nat.le_of_ble_eq_true rfl) (one_all rfl)) ?_
  rintro w5 ⟨-, b5, c5⟩
  have H4 : Hold w F w5 [rB ge 60 ((eC s b gp gw gd tv qn actv usd opn gl gk)), rPl gp (logs s b + s * b) rdf, rR kE 115 tv tab, rMW gw (wk.map kfP), rMW gd (du.map kfP), rPool 2 pl, rB gl 2 ([.int .i64 (-1)]), rB g3 29 ([.int .i64 1, .string nm, .string dt, .int .i64 0]), rB g4 42 ([.int .i64 0, .string ⟨#[]⟩, .slice none 0 0, .int .i64 0, .int .i64 0, .int .i64 0, .int .i64 0, .int .i64 0, .int .i64 0]), rB g5 142 ([.nilFunc, .func (.func 53) [.pointer (some ⟨ge, 0, none⟩)].toArray [].toArray, .func (.func 54) [.pointer (some ⟨ge, 0, none⟩)].toArray [].toArray, .func (.func 55) [.pointer (some ⟨ge, 0, none⟩)].toArray [].toArray, .func (.func 56) [.pointer (some ⟨ge, 0, none⟩)].toArray [].toArray, .func (.func 57) [.pointer (some ⟨ge, 0, none⟩)].toArray [].toArray, .func (.func 58) [.pointer (some ⟨ge, 0, none⟩)].toArray [].toArray, .func (.func 59) [.pointer (some ⟨ge, 0, none⟩)].toArray [].toArray, .func (.func 60) [.pointer (some ⟨ge, 0, none⟩)].toArray [].toArray])] := Hold.setB H3 9 rfl b5 c5 rfl
  clear H3
  clear b5 c5
  refine re (sq (sq ?_))
  refine gen (fun ρ => ρ 0 = .pointer (some ⟨ge, 0, none⟩) ∧ ρ 3 = .pointer (some ⟨g3, 0, none⟩) ∧ ρ 4 = .pointer (some ⟨g4, 0, none⟩) ∧ ρ 5 = .pointer (some ⟨g5, 0, none⟩) ∧ True) ⟨rfl, rfl, rfl, rfl, trivial⟩ ?_
  rintro ρ ⟨z0, z3, z4, z5, -⟩
  have b6 : B w5 g3 29 ([.int .i64 1, .string nm, .string dt, .int .i64 0]) := Hold.blk H4 7 rfl
  refine rg (r (fa Tryz.underlying29 rfl ti2 rfl z3) (r (ldb Tryz.underlying2 rfl rfl b6 rfl) (r (Rn.cast (v' := .bool false) (bi rfl rfl rfl) rfl) (r (Rn.cast (v' := .bool false) (mv rfl) rfl) (gy rfl rfl rfl (r (fa Tryz.underlying29 rfl ti2 rfl z3) (gy rfl rfl rfl (r (ldb Tryz.underlying2 rfl rfl b6 rfl) (gy rfl rfl rfl (r (Rn.cast (v' := .bool false) (bi rfl rfl rfl) rfl) (r (Rn.cast (v' := .bool false) (pk rfl rfl) rfl) (re (cf rfl (sk (sq (rg (r (fa Tryz.underlying29 rfl ti2 rfl z3) (r (ldb Tryz.underlying2 rfl rfl b6 rfl) (r (Rn.cast (v' := .bool true) (bi rfl rfl rfl) rfl) (r (sa rfl) (re (sq (sq ?_)))))))))))))))))))))))
  refine gen (fun ρ => ρ 0 = .pointer (some ⟨ge, 0, none⟩) ∧ ρ 3 = .pointer (some ⟨g3, 0, none⟩) ∧ ρ 4 = .pointer (some ⟨g4, 0, none⟩) ∧ ρ 5 = .pointer (some ⟨g5, 0, none⟩) ∧ ρ 6 = .bool true ∧ True) ⟨z0, z3, z4, z5, rfl, trivial⟩ ?_
  rintro ρ ⟨z0, z3, z4, z5, z6, -⟩
  refine rg (r (mv z6) (r (Rn.cast (v' := .bool false) (nt rfl) rfl) (r (Rn.cast (v' := .bool false) (mv rfl) rfl) (gn rfl rfl rfl (gn rfl rfl rfl (gn rfl rfl rfl (r (Rn.cast (v' := .bool false) (pk rfl rfl) rfl) (r (Rn.cast (v' := .bool false) (mv rfl) rfl) (gy rfl rfl rfl (r (fa Tryz.underlying29 rfl ti2 rfl z3) (gy rfl rfl rfl (r (ldb Tryz.underlying2 rfl rfl b6 rfl) (gy rfl rfl rfl (r (Rn.cast (v' := .bool false) (bi rfl rfl rfl) rfl) (gy rfl rfl rfl (r (Rn.cast (v' := .bool false) (mv rfl) rfl) (gn rfl rfl rfl (gn rfl rfl rfl (gn rfl rfl rfl (gy rfl rfl rfl (r (Rn.cast (v' := .bool false) (pk rfl rfl) rfl) (r (Rn.cast (v' := .bool false) (pk rfl rfl) rfl) (r (Rn.cast (v' := .bool false) (mv rfl) rfl) (gy rfl rfl rfl (r (fa Tryz.underlying29 rfl ti2 rfl z3) (gy rfl rfl rfl (r (ldb Tryz.underlying2 rfl rfl b6 rfl) (gy rfl rfl rfl (r (Rn.cast (v' := .bool true) (bi rfl rfl rfl) rfl) (gy rfl rfl rfl (r (Rn.cast (v' := .bool true) (mv rfl) rfl) (gy rfl rfl rfl (r (fa Tryz.underlying29 rfl ti2 rfl z3) (gy rfl rfl rfl (r (ldb Tryz.underlying2 rfl rfl b6 rfl) (gy rfl rfl rfl (r (Rn.cast (v' := .bool false) (bi rfl rfl rfl) rfl) (gy rfl rfl rfl (r (Rn.cast (v' := .bool false) (pk rfl rfl) rfl) (r (Rn.cast (v' := .bool false) (pk rfl rfl) rfl) (re (cf rfl (sk (sq (sq ?_)))))))))))))))))))))))))))))))))))))))))))))
  refine gen (fun ρ => ρ 0 = .pointer (some ⟨ge, 0, none⟩) ∧ ρ 3 = .pointer (some ⟨g3, 0, none⟩) ∧ ρ 4 = .pointer (some ⟨g4, 0, none⟩) ∧ ρ 5 = .pointer (some ⟨g5, 0, none⟩) ∧ ρ 6 = .bool true ∧ True) ⟨z0, z3, z4, z5, z6, trivial⟩ ?_
  rintro ρ ⟨z0, z3, z4, z5, z6, -⟩
  refine rg (r (Rn.cast (v' := .bool true) (mv z6) rfl) (r (Rn.cast (v' := .bool true) (mv rfl) rfl) (gy rfl rfl rfl (r (fa Tryz.underlying29 rfl ti9 rfl z3) (gy rfl rfl rfl (r (ldb Tryz.underlying9 rfl rfl b6 rfl) (gy rfl rfl rfl (cl go61 (impl_ValidName (by omega)) (ac rfl an) ?_))))))))
  rintro r wv ⟨er, cv9⟩
  rw [decide_eq_true hnm] at er
  subst er
  have H5 : Hold w F wv [rB ge 60 ((eC s b gp gw gd tv qn actv usd opn gl gk)), rPl gp (logs s b + s * b) rdf, rR kE 115 tv tab, rMW gw (wk.map kfP), rMW gd (du.map kfP), rPool 2 pl, rB gl 2 ([.int .i64 (-1)]), rB g3 29 ([.int .i64 1, .string nm, .string dt, .int .i64 0]), rB g4 42 ([.int .i64 0, .string ⟨#[]⟩, .slice none 0 0, .int .i64 0, .int .i64 0, .int .i64 0, .int .i64 0, .int .i64 0, .int .i64 0]), rB g5 142 ([.nilFunc, .func (.func 53) [.pointer (some ⟨ge, 0, none⟩)].toArray [].toArray, .func (.func 54) [.pointer (some ⟨ge, 0, none⟩)].toArray [].toArray, .func (.func 55) [.pointer (some ⟨ge, 0, none⟩)].toArray [].toArray, .func (.func 56) [.pointer (some ⟨ge, 0, none⟩)].toArray [].toArray, .func (.func 57) [.pointer (some ⟨ge, 0, none⟩)].toArray [].toArray, .func (.func 58) [.pointer (some ⟨ge, 0, none⟩)].toArray [].toArray, .func (.func 59) [.pointer (some ⟨ge, 0, none⟩)].toArray [].toArray, .func (.func 60) [.pointer (some ⟨ge, 0, none⟩)].toArray [].toArray])] := Hold.t H4 cv9
  clear H4
  clear cv9
  refine gy rfl rfl rfl (r (Rn.cast (v' := .bool false) (nt rfl) rfl) (r (Rn.cast (v' := .bool false) (pk rfl rfl) rfl) (re (cf rfl (sk (sq ?_))))))
  refine sq ?_
  refine rde mixed ?_
  intro w8 c8
  have H6 : Hold w F w8 [rB ge 60 ((eC s b gp gw gd tv qn actv usd opn gl gk)), rPl gp (logs s b + s * b) rdf, rR kE 115 tv tab, rMW gw (wk.map kfP), rMW gd (du.map kfP), rPool 2 pl, rB gl 2 ([.int .i64 (-1)]), rB g3 29 ([.int .i64 1, .string nm, .string dt, .int .i64 0]), rB g4 42 ([.int .i64 0, .string ⟨#[]⟩, .slice none 0 0, .int .i64 0, .int .i64 0, .int .i64 0, .int .i64 0, .int .i64 0, .int .i64 0]), rB g5 142 ([.nilFunc, .func (.func 53) [.pointer (some ⟨ge, 0, none⟩)].toArray [].toArray, .func (.func 54) [.pointer (some ⟨ge, 0, none⟩)].toArray [].toArray, .func (.func 55) [.pointer (some ⟨ge, 0, none⟩)].toArray [].toArray, .func (.func 56) [.pointer (some ⟨ge, 0, none⟩)].toArray [].toArray, .func (.func 57) [.pointer (some ⟨ge, 0, none⟩)].toArray [].toArray, .func (.func 58) [.pointer (some ⟨ge, 0, none⟩)].toArray [].toArray, .func (.func 59) [.pointer (some ⟨ge, 0, none⟩)].toArray [].toArray, .func (.func 60) [.pointer (some ⟨ge, 0, none⟩)].toArray [].toArray])] := Hold.t H5 c8
  clear H5
  clear c8
  have H9d0 : Hold w8 [] w8 [] := Hold.start w8
  refine ⟨fun w' => Ch [] w8 w', Ch.refl _ _, ?_⟩
  have b10 : B w8 ge 60 ((eC s b gp gw gd tv qn actv usd opn gl gk)) := Hold.blk H6 0 rfl
  have b11 : B w8 g3 29 ([.int .i64 1, .string nm, .string dt, .int .i64 0]) := Hold.blk H6 7 rfl
  have b12 : MpW w8 gw (wk.map kfP) := Hold.mpw H6 3 rfl
  refine edt 0 rfl (by kernel_rfl) (fun w' hS => mv z0) (edt 1 rfl (by kernel_rfl) (fun w' hS => nck rfl) (edt 2 rfl (by kernel_rfl) (fun w' hS => fa Tryz.underlying60 rfl ti56 rfl rfl) (edt 3 rfl (by kernel_rfl) (fun w' hS => fa Tryz.underlying56 rfl ti54 rfl rfl) (edt 4 rfl (by kernel_rfl) (fun w' hS => fa Tryz.underlying54 rfl ti52 rfl rfl) (edt 5 rfl (by kernel_rfl) (fun w' hS => ldb Tryz.underlying52 rfl rfl (hS.b0 b10) rfl) (edt 6 rfl (by kernel_rfl) (fun w' hS => fa Tryz.underlying29 rfl ti9 rfl z3) (edt 7 rfl (by kernel_rfl) (fun w' hS => ldb Tryz.underlying9 rfl rfl (hS.b0 b11) rfl) (edt 8 rfl (by kernel_rfl) (fun w' hS => Rn.cast (v' := .tuple #[.agg #[.int .i64 0, .string (⟨#[]⟩ : ByteArray), .int .i64 0, .slice none 0 0], .bool false]) (lkps Tryz.underlying52 Tryz.underlying9 ti91 rfl rfl (MpW.s (MpW.t hS b12))) (by rw [look_kf, hfk]; rfl)) (edt 9 rfl (by kernel_rfl) (fun w' hS => mv rfl) (edt 10 rfl (by kernel_rfl) (fun w' hS => xt rfl rfl) (edt 11 rfl (by kernel_rfl) (fun w' hS => xt rfl rfl) (ed1 12 (by kernel_rfl) <| euf rfl (xal ti91) ?_))))))))))))
  rintro _ w13 ⟨g7, e13, rfl, -, b13, c13⟩
  have H7d : Hold w8 [] w13 [rB g7 91 ([.int .i64 0, .string ⟨#[]⟩, .int .i64 0, .slice none 0 0])] := Hold.newB H9d0 e13 b13 c13
  clear H9d0
  clear e13 b13 c13
  refine ⟨.inr (Hold.ch H7d), ?_⟩
  have b14 : B w13 g7 91 ([.int .i64 0, .string ⟨#[]⟩, .int .i64 0, .slice none 0 0]) := Hold.blk H7d 0 rfl
  refine ed1 13 (by kernel_rfl) <| euf0 rfl (xst (vs := [.int .i64 0, .string (⟨#[]⟩ : ByteArray), .int .i64 0, .slice none 0 0]) ti91 rfl rfl rfl b14 rfl (Nat.le_of_ble_eq_true rfl) (one_all rfl)) ?_
  rintro w15 ⟨-, b15, c15⟩
  have H8d : Hold w8 [] w15 [rB g7 91 ([.int .i64 0, .string (⟨#[]⟩ : ByteArray), .int .i64 0, .slice none 0 0])] := Hold.setB H7d 0 rfl b15 c15 rfl
  clear H7d
  clear b15 c15
  refine ⟨.inr (Hold.ch H8d), ?_⟩
  have H9 : Hold w F w15 [rB ge 60 ((eC s b gp gw gd tv qn actv usd opn gl gk)), rPl gp (logs s b + s * b) rdf, rR kE 115 tv tab, rMW gw (wk.map kfP), rMW gd (du.map kfP), rPool 2 pl, rB gl 2 ([.int .i64 (-1)]), rB g3 29 ([.int .i64 1, .string nm, .string dt, .int .i64 0]), rB g4 42 ([.int .i64 0, .string ⟨#[]⟩, .slice none 0 0, .int .i64 0, .int .i64 0, .int .i64 0, .int .i64 0, .int .i64 0, .int .i64 0]), rB g5 142 ([.nilFunc, .func (.func 53) [.pointer (some ⟨ge, 0, none⟩)].toArray [].toArray, .func (.func 54) [.pointer (some ⟨ge, 0, none⟩)].toArray [].toArray, .func (.func 55) [.pointer (some ⟨ge, 0, none⟩)].toArray [].toArray, .func (.func 56) [.pointer (some ⟨ge, 0, none⟩)].toArray [].toArray, .func (.func 57) [.pointer (some ⟨ge, 0, none⟩)].toArray [].toArray, .func (.func 58) [.pointer (some ⟨ge, 0, none⟩)].toArray [].toArray, .func (.func 59) [.pointer (some ⟨ge, 0, none⟩)].toArray [].toArray, .func (.func 60) [.pointer (some ⟨ge, 0, none⟩)].toArray [].toArray]), rB g7 91 ([.int .i64 0, .string (⟨#[]⟩ : ByteArray), .int .i64 0, .slice none 0 0])] := Hold.news H6 H8d
  clear H8d H6
  refine ed1 14 (by kernel_rfl) <| eur rfl (sa rfl) (.inl (by kernel_rfl)) ?_
  refine edd (by kernel_rfl) ?_
  refine sq ?_
  refine gen (fun ρ => ρ 3 = .pointer (some ⟨g3, 0, none⟩) ∧ ρ 4 = .pointer (some ⟨g4, 0, none⟩) ∧ ρ 5 = .pointer (some ⟨g5, 0, none⟩) ∧ ρ 6 = .bool true ∧ ρ 8 = .bool false ∧ True) ⟨z3, z4, z5, z6, rfl, trivial⟩ ?_
  rintro ρ ⟨z3, z4, z5, z6, z8, -⟩
  have b16 : B w15 g3 29 ([.int .i64 1, .string nm, .string dt, .int .i64 0]) := Hold.blk H9 7 rfl
  refine rg (r (Rn.cast (v' := .bool true) (mv z6) rfl) (r (Rn.cast (v' := .bool true) (mv rfl) rfl) (gy rfl rfl rfl (r (fa Tryz.underlying29 rfl ti2 rfl z3) (gy rfl rfl rfl (r (ldb Tryz.underlying2 rfl rfl b16 rfl) (gy rfl rfl rfl (r (Rn.cast (v' := .bool false) (bi rfl rfl rfl) rfl) (r (Rn.cast (v' := .bool false) (pk rfl rfl) rfl) (r (Rn.cast (v' := .bool false) (mv rfl) rfl) (gn rfl rfl rfl (gn rfl rfl rfl (r (Rn.cast (v' := .bool false) (pk rfl rfl) rfl) (re (cf rfl (sk ?_))))))))))))))))
  refine sq ?_
  refine gen (fun ρ => ρ 3 = .pointer (some ⟨g3, 0, none⟩) ∧ ρ 4 = .pointer (some ⟨g4, 0, none⟩) ∧ ρ 5 = .pointer (some ⟨g5, 0, none⟩) ∧ True) ⟨z3, z4, z5, trivial⟩ ?_
  rintro ρ ⟨z3, z4, z5, -⟩
  refine rde mixed ?_
  intro w17 c17
  have H10 : Hold w F w17 [rB ge 60 ((eC s b gp gw gd tv qn actv usd opn gl gk)), rPl gp (logs s b + s * b) rdf, rR kE 115 tv tab, rMW gw (wk.map kfP), rMW gd (du.map kfP), rPool 2 pl, rB gl 2 ([.int .i64 (-1)]), rB g3 29 ([.int .i64 1, .string nm, .string dt, .int .i64 0]), rB g4 42 ([.int .i64 0, .string ⟨#[]⟩, .slice none 0 0, .int .i64 0, .int .i64 0, .int .i64 0, .int .i64 0, .int .i64 0, .int .i64 0]), rB g5 142 ([.nilFunc, .func (.func 53) [.pointer (some ⟨ge, 0, none⟩)].toArray [].toArray, .func (.func 54) [.pointer (some ⟨ge, 0, none⟩)].toArray [].toArray, .func (.func 55) [.pointer (some ⟨ge, 0, none⟩)].toArray [].toArray, .func (.func 56) [.pointer (some ⟨ge, 0, none⟩)].toArray [].toArray, .func (.func 57) [.pointer (some ⟨ge, 0, none⟩)].toArray [].toArray, .func (.func 58) [.pointer (some ⟨ge, 0, none⟩)].toArray [].toArray, .func (.func 59) [.pointer (some ⟨ge, 0, none⟩)].toArray [].toArray, .func (.func 60) [.pointer (some ⟨ge, 0, none⟩)].toArray [].toArray]), rB g7 91 ([.int .i64 0, .string (⟨#[]⟩ : ByteArray), .int .i64 0, .slice none 0 0])] := Hold.t H9 c17
  clear H9
  clear c17
  have H11 : Hold w F w17 [rB g4 42 ([.int .i64 0, .string ⟨#[]⟩, .slice none 0 0, .int .i64 0, .int .i64 0, .int .i64 0, .int .i64 0, .int .i64 0, .int .i64 0]), rB ge 60 ((eC s b gp gw gd tv qn actv usd opn gl gk)), rPl gp (logs s b + s * b) rdf, rR kE 115 tv tab, rMW gw (wk.map kfP), rMW gd (du.map kfP), rPool 2 pl, rB gl 2 ([.int .i64 (-1)]), rB g3 29 ([.int .i64 1, .string nm, .string dt, .int .i64 0]), rB g5 142 ([.nilFunc, .func (.func 53) [.pointer (some ⟨ge, 0, none⟩)].toArray [].toArray, .func (.func 54) [.pointer (some ⟨ge, 0, none⟩)].toArray [].toArray, .func (.func 55) [.pointer (some ⟨ge, 0, none⟩)].toArray [].toArray, .func (.func 56) [.pointer (some ⟨ge, 0, none⟩)].toArray [].toArray, .func (.func 57) [.pointer (some ⟨ge, 0, none⟩)].toArray [].toArray, .func (.func 58) [.pointer (some ⟨ge, 0, none⟩)].toArray [].toArray, .func (.func 59) [.pointer (some ⟨ge, 0, none⟩)].toArray [].toArray, .func (.func 60) [.pointer (some ⟨ge, 0, none⟩)].toArray [].toArray]), rB g7 91 ([.int .i64 0, .string (⟨#[]⟩ : ByteArray), .int .i64 0, .slice none 0 0])] := Hold.re H10 [8, 0, 1, 2, 3, 4, 5, 6, 7, 9, 10] (by kernel_rfl) (by rfl)
  clear H10
  obtain ⟨Fd18, hFd18, nd18, Kd18, Xd18, sd18⟩ := Hold.frontx (Γ := [rB g4 42 ([.int .i64 0, .string ⟨#[]⟩, .slice none 0 0, .int .i64 0, .int .i64 0, .int .i64 0, .int .i64 0, .int .i64 0, .int .i64 0])]) (Δ := [rB ge 60 ((eC s b gp gw gd tv qn actv usd opn gl gk)), rPl gp (logs s b + s * b) rdf, rR kE 115 tv tab, rMW gw (wk.map kfP), rMW gd (du.map kfP), rPool 2 pl, rB gl 2 ([.int .i64 (-1)]), rB g3 29 ([.int .i64 1, .string nm, .string dt, .int .i64 0]), rB g5 142 ([.nilFunc, .func (.func 53) [.pointer (some ⟨ge, 0, none⟩)].toArray [].toArray, .func (.func 54) [.pointer (some ⟨ge, 0, none⟩)].toArray [].toArray, .func (.func 55) [.pointer (some ⟨ge, 0, none⟩)].toArray [].toArray, .func (.func 56) [.pointer (some ⟨ge, 0, none⟩)].toArray [].toArray, .func (.func 57) [.pointer (some ⟨ge, 0, none⟩)].toArray [].toArray, .func (.func 58) [.pointer (some ⟨ge, 0, none⟩)].toArray [].toArray, .func (.func 59) [.pointer (some ⟨ge, 0, none⟩)].toArray [].toArray, .func (.func 60) [.pointer (some ⟨ge, 0, none⟩)].toArray [].toArray]), rB g7 91 ([.int .i64 0, .string (⟨#[]⟩ : ByteArray), .int .i64 0, .slice none 0 0])]) H11
  have H18d0 : Hold w17 Fd18 w17 [rB g4 42 ([.int .i64 0, .string ⟨#[]⟩, .slice none 0 0, .int .i64 0, .int .i64 0, .int .i64 0, .int .i64 0, .int .i64 0, .int .i64 0])] := Hold.begin hFd18 nd18
  refine ⟨fun w' => Ch Fd18 w17 w', Ch.refl _ _, ?_⟩
  obtain ⟨_, ⟨rfl, b19⟩, x19⟩ := Xd18 7 (rB g3 29 ([.int .i64 1, .string nm, .string dt, .int .i64 0])) rfl
  obtain ⟨_, ⟨rfl, b20⟩, x20⟩ := Xd18 8 (rB g5 142 ([.nilFunc, .func (.func 53) [.pointer (some ⟨ge, 0, none⟩)].toArray [].toArray, .func (.func 54) [.pointer (some ⟨ge, 0, none⟩)].toArray [].toArray, .func (.func 55) [.pointer (some ⟨ge, 0, none⟩)].toArray [].toArray, .func (.func 56) [.pointer (some ⟨ge, 0, none⟩)].toArray [].toArray, .func (.func 57) [.pointer (some ⟨ge, 0, none⟩)].toArray [].toArray, .func (.func 58) [.pointer (some ⟨ge, 0, none⟩)].toArray [].toArray, .func (.func 59) [.pointer (some ⟨ge, 0, none⟩)].toArray [].toArray, .func (.func 60) [.pointer (some ⟨ge, 0, none⟩)].toArray [].toArray])) rfl
  obtain ⟨_, ⟨rfl, b22⟩, x22⟩ := Xd18 0 (rB ge 60 ((eC s b gp gw gd tv qn actv usd opn gl gk))) rfl
  obtain ⟨_, R23, x23⟩ := Xd18 2 (rR kE 115 tv tab) rfl
  replace R23 := Kd.W.R R23
  refine edt 0 rfl (by kernel_rfl) (fun w' hS => fa Tryz.underlying29 rfl ti2 rfl z3) (edt 1 rfl (by kernel_rfl) (fun w' hS => ldb Tryz.underlying2 rfl rfl (hS.b b19 (x19 _ (by simp))) rfl) (edt 2 rfl (by kernel_rfl) (fun w' hS => ixar 1 Tryz.underlying142 ti94 z5 rfl (by decide)) (edt 3 rfl (by kernel_rfl) (fun w' hS => ldb Tryz.underlying94 rfl rfl (hS.b b20 (x20 _ (by simp))) rfl) (edt 4 rfl (by kernel_rfl) (fun w' hS => lab [.int .i64 1, .string nm, .string dt, .int .i64 0] Tryz.underlying29 rfl ti29 z3 (hS.b b19 (x19 _ (by simp))) rfl rfl) (ed1 5 (by kernel_rfl) <| eucb rfl rfl go53 (ac rfl an) (eng_writeFile_no ((Hold.ch H18d0).b b22 (x22 _ (by simp))) (R23.tt (Hold.ch H18d0) x23) lt hg hsz hcap) ?_)))))
  rintro r ww ⟨rfl, cw9⟩
  have H12d : Hold w17 Fd18 ww [rB g4 42 ([.int .i64 0, .string ⟨#[]⟩, .slice none 0 0, .int .i64 0, .int .i64 0, .int .i64 0, .int .i64 0, .int .i64 0, .int .i64 0])] := Hold.t H18d0 cw9
  clear H18d0
  clear cw9
  refine ⟨.inr (Hold.ch H12d), ?_⟩
  have H13 : Hold w F ww [rB g4 42 ([.int .i64 0, .string ⟨#[]⟩, .slice none 0 0, .int .i64 0, .int .i64 0, .int .i64 0, .int .i64 0, .int .i64 0, .int .i64 0]), rB ge 60 ((eC s b gp gw gd tv qn actv usd opn gl gk)), rPl gp (logs s b + s * b) rdf, rR kE 115 tv tab, rMW gw (wk.map kfP), rMW gd (du.map kfP), rPool 2 pl, rB gl 2 ([.int .i64 (-1)]), rB g3 29 ([.int .i64 1, .string nm, .string dt, .int .i64 0]), rB g5 142 ([.nilFunc, .func (.func 53) [.pointer (some ⟨ge, 0, none⟩)].toArray [].toArray, .func (.func 54) [.pointer (some ⟨ge, 0, none⟩)].toArray [].toArray, .func (.func 55) [.pointer (some ⟨ge, 0, none⟩)].toArray [].toArray, .func (.func 56) [.pointer (some ⟨ge, 0, none⟩)].toArray [].toArray, .func (.func 57) [.pointer (some ⟨ge, 0, none⟩)].toArray [].toArray, .func (.func 58) [.pointer (some ⟨ge, 0, none⟩)].toArray [].toArray, .func (.func 59) [.pointer (some ⟨ge, 0, none⟩)].toArray [].toArray, .func (.func 60) [.pointer (some ⟨ge, 0, none⟩)].toArray [].toArray]), rB g7 91 ([.int .i64 0, .string (⟨#[]⟩ : ByteArray), .int .i64 0, .slice none 0 0])] := Hold.call Kd18 H12d
  clear H12d H11
  have b24 : B ww g4 42 ([.int .i64 0, .string ⟨#[]⟩, .slice none 0 0, .int .i64 0, .int .i64 0, .int .i64 0, .int .i64 0, .int .i64 0, .int .i64 0]) := Hold.blk H13 0 rfl
  refine ed1 6 (by kernel_rfl) <| euf0 rfl (xst (vs := [.int .i64 24, .string noB, .slice none 0 0, .int .i64 0, .int .i64 0, .int .i64 0, .int .i64 0, .int .i64 0, .int .i64 0]) ti42 z4 rfl rfl b24 rfl (Nat.le_of_ble_eq_true rfl) (one_all rfl)) ?_
  rintro w25 ⟨-, b25, c25⟩
  have H14 : Hold w F w25 [rB g4 42 ([.int .i64 24, .string noB, .slice none 0 0, .int .i64 0, .int .i64 0, .int .i64 0, .int .i64 0, .int .i64 0, .int .i64 0]), rB ge 60 ((eC s b gp gw gd tv qn actv usd opn gl gk)), rPl gp (logs s b + s * b) rdf, rR kE 115 tv tab, rMW gw (wk.map kfP), rMW gd (du.map kfP), rPool 2 pl, rB gl 2 ([.int .i64 (-1)]), rB g3 29 ([.int .i64 1, .string nm, .string dt, .int .i64 0]), rB g5 142 ([.nilFunc, .func (.func 53) [.pointer (some ⟨ge, 0, none⟩)].toArray [].toArray, .func (.func 54) [.pointer (some ⟨ge, 0, none⟩)].toArray [].toArray, .func (.func 55) [.pointer (some ⟨ge, 0, none⟩)].toArray [].toArray, .func (.func 56) [.pointer (some ⟨ge, 0, none⟩)].toArray [].toArray, .func (.func 57) [.pointer (some ⟨ge, 0, none⟩)].toArray [].toArray, .func (.func 58) [.pointer (some ⟨ge, 0, none⟩)].toArray [].toArray, .func (.func 59) [.pointer (some ⟨ge, 0, none⟩)].toArray [].toArray, .func (.func 60) [.pointer (some ⟨ge, 0, none⟩)].toArray [].toArray]), rB g7 91 ([.int .i64 0, .string (⟨#[]⟩ : ByteArray), .int .i64 0, .slice none 0 0])] := Hold.setB H13 0 rfl b25 c25 rfl
  clear H13
  clear b25 c25
  refine ⟨.inl (by kernel_rfl), ?_⟩
  refine edd (by kernel_rfl) ?_
  refine rt ?_
  have b26 : B w25 g4 42 ([.int .i64 24, .string noB, .slice none 0 0, .int .i64 0, .int .i64 0, .int .i64 0, .int .i64 0, .int .i64 0, .int .i64 0]) := Hold.blk H14 0 rfl
  have H15 : Hold w F w25 [rB ge 60 ((eC s b gp gw gd tv qn actv usd opn gl gk)), rPl gp (logs s b + s * b) rdf, rR kE 115 tv tab, rMW gw (wk.map kfP), rMW gd (du.map kfP), rPool 2 pl, rB gl 2 ([.int .i64 (-1)])] := (show Hold w F w25 ([rB ge 60 ((eC s b gp gw gd tv qn actv usd opn gl gk)), rPl gp (logs s b + s * b) rdf, rR kE 115 tv tab, rMW gw (wk.map kfP), rMW gd (du.map kfP), rPool 2 pl, rB gl 2 ([.int .i64 (-1)])] ++ [rB g4 42 ([.int .i64 24, .string noB, .slice none 0 0, .int .i64 0, .int .i64 0, .int .i64 0, .int .i64 0, .int .i64 0, .int .i64 0]), rB g3 29 ([.int .i64 1, .string nm, .string dt, .int .i64 0]), rB g5 142 ([.nilFunc, .func (.func 53) [.pointer (some ⟨ge, 0, none⟩)].toArray [].toArray, .func (.func 54) [.pointer (some ⟨ge, 0, none⟩)].toArray [].toArray, .func (.func 55) [.pointer (some ⟨ge, 0, none⟩)].toArray [].toArray, .func (.func 56) [.pointer (some ⟨ge, 0, none⟩)].toArray [].toArray, .func (.func 57) [.pointer (some ⟨ge, 0, none⟩)].toArray [].toArray, .func (.func 58) [.pointer (some ⟨ge, 0, none⟩)].toArray [].toArray, .func (.func 59) [.pointer (some ⟨ge, 0, none⟩)].toArray [].toArray, .func (.func 60) [.pointer (some ⟨ge, 0, none⟩)].toArray [].toArray]), rB g7 91 ([.int .i64 0, .string (⟨#[]⟩ : ByteArray), .int .i64 0, .slice none 0 0])]) from Hold.re H14 [1, 2, 3, 4, 5, 6, 7, 0, 8, 9, 10] (by kernel_rfl) (by rfl)).drop
  clear H14
  exact finc  (cs := [.int .i64 24, .string noB, .slice none 0 0, .int .i64 0, .int .i64 0, .int .i64 0, .int .i64 0, .int .i64 0, .int .i64 0]) Tryz.results34 Tryz.underlying42 rfl ti42 z4 b26 rfl  ⟨rfl, H15⟩
theorem call_write_ok {w : World} {F : List Nat} {ge gp gw gd gl gk : Nat} {tv : Value} {s b qn actv usd opn : Int} {rdf : Int → List Int} {tab : List (Int × Bool)} {wk du : List Kf} {pl : List (Value × List Int)} {nm dt : ByteArray} (h : Hs w [rB ge 60 ((eC s b gp gw gd tv qn actv usd opn gl gk)), rPl gp (logs s b + s * b) rdf, rR kE 115 tv tab, rMW gw (wk.map kfP), rMW gd (du.map kfP), rPool 2 pl, rB gl 2 ([.int .i64 (-1)])] F) (nd : F.Nodup) (hg : geo s b) (hsz : dt.size ≤ 1408) (hnm : okName (nums8 nm)) (hfk : findK wk nm = none) (hL : Lg s b tab actv usd) (hcap : usedN tab + (mN dt.size + 1 : Nat) ≤ s * b - 2 * b) (hfr : ((mN dt.size + 1 : Nat) : Int) + b ≤ freeF (segCounts tab s b) actv usd b) (how : ∀ k, k ∈ wk → k.lv.oneCell' = true) (hod : ∀ k, k ∈ du → k.lv.oneCell' = true) : Ret Tryz.prog 34 #[.pointer (some ⟨ge, 0, none⟩), .agg #[.int .i64 1, .string nm, .string dt, .int .i64 0]] w (fun r w' => ∃ op' rd' a' us' tab' k, r = ansV 0 noB ∧ StR s b (freeF (segCounts tab s b) actv usd b) tab rdf nm dt tab' rd' a' us' k ∧ Hold w F w' [rB ge 60 ((eC s b gp gw gd tv qn a' us' op' gl gk)), rPl gp (logs s b + s * b) rd', rR kE 115 tv tab', rMW gw ((wk ++ [k]).map kfP), rMW gd (du.map kfP), rPool 2 ((k.lv, k.ls) :: pl), rB gl 2 ([.int .i64 (-1)])]) := by
  refine enter Tryz.func34 rfl Tryz.ntmps34 (by rfl) (by rfl) ?_
  have H0 : Hold w F w [rB ge 60 ((eC s b gp gw gd tv qn actv usd opn gl gk)), rPl gp (logs s b + s * b) rdf, rR kE 115 tv tab, rMW gw (wk.map kfP), rMW gd (du.map kfP), rPool 2 pl, rB gl 2 ([.int .i64 (-1)])] := Hold.begin h nd
  have hns : nm.size ≤ 9223372036854775807 := by have := hnm.2.2; rw [nums8_len] at this; omega
  refine sq (rg (ef (xbx (t := 29) rfl rfl) ?_))
  rintro _ w1 ⟨g3, e1, rfl, -, b1, c1⟩
  have H1 : Hold w F w1 [rB ge 60 ((eC s b gp gw gd tv qn actv usd opn gl gk)), rPl gp (logs s b + s * b) rdf, rR kE 115 tv tab, rMW gw (wk.map kfP), rMW gd (du.map kfP), rPool 2 pl, rB gl 2 ([.int .i64 (-1)]), rB g3 29 ([.int .i64 1, .string nm, .string dt, .int .i64 0])] := Hold.newB H0 e1 b1 c1
  clear H0
  clear e1 b1 c1
  refine ef (xal ti42) ?_
  rintro _ w2 ⟨g4, e2, rfl, -, b2, c2⟩
  have H2 : Hold w F w2 [rB ge 60 ((eC s b gp gw gd tv qn actv usd opn gl gk)), rPl gp (logs s b + s * b) rdf, rR kE 115 tv tab, rMW gw (wk.map kfP), rMW gd (du.map kfP), rPool 2 pl, rB gl 2 ([.int .i64 (-1)]), rB g3 29 ([.int .i64 1, .string nm, .string dt, .int .i64 0]), rB g4 42 ([.int .i64 0, .string ⟨#[]⟩, .slice none 0 0, .int .i64 0, .int .i64 0, .int .i64 0, .int .i64 0, .int .i64 0, .int .i64 0])] := Hold.newB H1 e2 b2 c2
  clear H1
  clear e2 b2 c2
  refine re (sq (rg (r (mv rfl) (r (mf (vs := [.pointer (some ⟨ge, 0, none⟩)]) (cs := []) (ac rfl an) an) (r (mv rfl) (r (mf (vs := [.pointer (some ⟨ge, 0, none⟩)]) (cs := []) (ac rfl an) an) (r (mv rfl) (r (mf (vs := [.pointer (some ⟨ge, 0, none⟩)]) (cs := []) (ac rfl an) an) (r (mv rfl) (r (mf (vs := [.pointer (some ⟨ge, 0, none⟩)]) (cs := []) (ac rfl an) an) (r (mv rfl) (r (mf (vs := [.pointer (some ⟨ge, 0, none⟩)]) (cs := []) (ac rfl an) an) (r (mv rfl) (r (mf (vs := [.pointer (some ⟨ge, 0, none⟩)]) (cs := []) (ac rfl an) an) (r (mv rfl) (r (mf (vs := [.pointer (some ⟨ge, 0, none⟩)]) (cs := []) (ac rfl an) an) (r (mv rfl) (r (mf (vs := [.pointer (some ⟨ge, 0, none⟩)]) (cs := []) (ac rfl an) an) (r (bda (r := [.nilFunc, .func (.func 53) [.pointer (some ⟨ge, 0, none⟩)].toArray [].toArray, .func (.func 54) [.pointer (some ⟨ge, 0, none⟩)].toArray [].toArray, .func (.func 55) [.pointer (some ⟨ge, 0, none⟩)].toArray [].toArray, .func (.func 56) [.pointer (some ⟨ge, 0, none⟩)].toArray [].toArray, .func (.func 57) [.pointer (some ⟨ge, 0, none⟩)].toArray [].toArray, .func (.func 58) [.pointer (some ⟨ge, 0, none⟩)].toArray [].toArray, .func (.func 59) [.pointer (some ⟨ge, 0, none⟩)].toArray [].toArray, .func (.func 60) [.pointer (some ⟨ge, 0, none⟩)].toArray [].toArray]) [(0, 1), (1, 1), (2, 1), (3, 1), (4, 1), (5, 1), (6, 1), (7, 1), (8, 1)] (by decide) Tryz.underlying142 ti142 ti94 (pc (v := .func (.func 53) [.pointer (some ⟨ge, 0, none⟩)].toArray [].toArray) (c := [.func (.func 53) [.pointer (some ⟨ge, 0, none⟩)].toArray [].toArray]) rfl (cel1 rfl) (pc (v := .func (.func 54) [.pointer (some ⟨ge, 0, none⟩)].toArray [].toArray) (c := [.func (.func 54) [.pointer (some ⟨ge, 0, none⟩)].toArray [].toArray]) rfl (cel1 rfl) (pc (v := .func (.func 55) [.pointer (some ⟨ge, 0, none⟩)].toArray [].toArray) (c := [.func (.func 55) [.pointer (some ⟨ge, 0, none⟩)].toArray [].toArray]) rfl (cel1 rfl) (pc (v := .func (.func 56) [.pointer (some ⟨ge, 0, none⟩)].toArray [].toArray) (c := [.func (.func 56) [.pointer (some ⟨ge, 0, none⟩)].toArray [].toArray]) rfl (cel1 rfl) (pc (v := .func (.func 57) [.pointer (some ⟨ge, 0, none⟩)].toArray [].toArray) (c := [.func (.func 57) [.pointer (some ⟨ge, 0, none⟩)].toArray [].toArray]) rfl (cel1 rfl) (pc (v := .func (.func 58) [.pointer (some ⟨ge, 0, none⟩)].toArray [].toArray) (c := [.func (.func 58) [.pointer (some ⟨ge, 0, none⟩)].toArray [].toArray]) rfl (cel1 rfl) (pc (v := .func (.func 59) [.pointer (some ⟨ge, 0, none⟩)].toArray [].toArray) (c := [.func (.func 59) [.pointer (some ⟨ge, 0, none⟩)].toArray [].toArray]) rfl (cel1 rfl) (pc (v := .func (.func 60) [.pointer (some ⟨ge, 0, none⟩)].toArray [].toArray) (c := [.func (.func 60) [.pointer (some ⟨ge, 0, none⟩)].toArray [].toArray]) rfl (cel1 rfl) pn)))))))) (by kernel_rfl)) (ef (xal ti142) ?_))))))))))))))))))))
  rintro _ w3 ⟨g5, e3, rfl, -, b3, c3⟩
  have H3 : Hold w F w3 [rB ge 60 ((eC s b gp gw gd tv qn actv usd opn gl gk)), rPl gp (logs s b + s * b) rdf, rR kE 115 tv tab, rMW gw (wk.map kfP), rMW gd (du.map kfP), rPool 2 pl, rB gl 2 ([.int .i64 (-1)]), rB g3 29 ([.int .i64 1, .string nm, .string dt, .int .i64 0]), rB g4 42 ([.int .i64 0, .string ⟨#[]⟩, .slice none 0 0, .int .i64 0, .int .i64 0, .int .i64 0, .int .i64 0, .int .i64 0, .int .i64 0]), rB g5 142 ([.nilFunc, .nilFunc, .nilFunc, .nilFunc, .nilFunc, .nilFunc, .nilFunc, .nilFunc, .nilFunc])] := Hold.newB H2 e3 b3 c3
  clear H2
  clear e3 b3 c3
  have b4 : B w3 g5 142 ([.nilFunc, .nilFunc, .nilFunc, .nilFunc, .nilFunc, .nilFunc, .nilFunc, .nilFunc, .nilFunc]) := Hold.blk H3 9 rfl
  refine ef0 (xst (vs := [.nilFunc, .func (.func 53) [.pointer (some ⟨ge, 0, none⟩)].toArray [].toArray, .func (.func 54) [.pointer (some ⟨ge, 0, none⟩)].toArray [].toArray, .func (.func 55) [.pointer (some ⟨ge, 0, none⟩)].toArray [].toArray, .func (.func 56) [.pointer (some ⟨ge, 0, none⟩)].toArray [].toArray, .func (.func 57) [.pointer (some ⟨ge, 0, none⟩)].toArray [].toArray, .func (.func 58) [.pointer (some ⟨ge, 0, none⟩)].toArray [].toArray, .func (.func 59) [.pointer (some ⟨ge, 0, none⟩)].toArray [].toArray, .func (.func 60) [.pointer (some ⟨ge, 0, none⟩)].toArray [].toArray]) ti142 rfl rfl rfl b4 rfl (Nat.le_of_ble_eq_true rfl) (one_all rfl)) ?_
  rintro w5 ⟨-, b5, c5⟩
  have H4 : Hold w F w5 [rB ge 60 ((eC s b gp gw gd tv qn actv usd opn gl gk)), rPl gp (logs s b + s * b) rdf, rR kE 115 tv tab, rMW gw (wk.map kfP), rMW gd (du.map kfP), rPool 2 pl, rB gl 2 ([.int .i64 (-1)]), rB g3 29 ([.int .i64 1, .string nm, .string dt, .int .i64 0]), rB g4 42 ([.int .i64 0, .string ⟨#[]⟩, .slice none 0 0, .int .i64 0, .int .i64 0, .int .i64 0, .int .i64 0, .int .i64 0, .int .i64 0]), rB g5 142 ([.nilFunc, .func (.func 53) [.pointer (some ⟨ge, 0, none⟩)].toArray [].toArray, .func (.func 54) [.pointer (some ⟨ge, 0, none⟩)].toArray [].toArray, .func (.func 55) [.pointer (some ⟨ge, 0, none⟩)].toArray [].toArray, .func (.func 56) [.pointer (some ⟨ge, 0, none⟩)].toArray [].toArray, .func (.func 57) [.pointer (some ⟨ge, 0, none⟩)].toArray [].toArray, .func (.func 58) [.pointer (some ⟨ge, 0, none⟩)].toArray [].toArray, .func (.func 59) [.pointer (some ⟨ge, 0, none⟩)].toArray [].toArray, .func (.func 60) [.pointer (some ⟨ge, 0, none⟩)].toArray [].toArray])] := Hold.setB H3 9 rfl b5 c5 rfl
  clear H3
  clear b5 c5
  refine re (sq (sq ?_))
  refine gen (fun ρ => ρ 0 = .pointer (some ⟨ge, 0, none⟩) ∧ ρ 3 = .pointer (some ⟨g3, 0, none⟩) ∧ ρ 4 = .pointer (some ⟨g4, 0, none⟩) ∧ ρ 5 = .pointer (some ⟨g5, 0, none⟩) ∧ True) ⟨rfl, rfl, rfl, rfl, trivial⟩ ?_
  rintro ρ ⟨z0, z3, z4, z5, -⟩
  have b6 : B w5 g3 29 ([.int .i64 1, .string nm, .string dt, .int .i64 0]) := Hold.blk H4 7 rfl
  refine rg (r (fa Tryz.underlying29 rfl ti2 rfl z3) (r (ldb Tryz.underlying2 rfl rfl b6 rfl) (r (Rn.cast (v' := .bool false) (bi rfl rfl rfl) rfl) (r (Rn.cast (v' := .bool false) (mv rfl) rfl) (gy rfl rfl rfl (r (fa Tryz.underlying29 rfl ti2 rfl z3) (gy rfl rfl rfl (r (ldb Tryz.underlying2 rfl rfl b6 rfl) (gy rfl rfl rfl (r (Rn.cast (v' := .bool false) (bi rfl rfl rfl) rfl) (r (Rn.cast (v' := .bool false) (pk rfl rfl) rfl) (re (cf rfl (sk (sq (rg (r (fa Tryz.underlying29 rfl ti2 rfl z3) (r (ldb Tryz.underlying2 rfl rfl b6 rfl) (r (Rn.cast (v' := .bool true) (bi rfl rfl rfl) rfl) (r (sa rfl) (re (sq (sq ?_)))))))))))))))))))))))
  refine gen (fun ρ => ρ 0 = .pointer (some ⟨ge, 0, none⟩) ∧ ρ 3 = .pointer (some ⟨g3, 0, none⟩) ∧ ρ 4 = .pointer (some ⟨g4, 0, none⟩) ∧ ρ 5 = .pointer (some ⟨g5, 0, none⟩) ∧ ρ 6 = .bool true ∧ True) ⟨z0, z3, z4, z5, rfl, trivial⟩ ?_
  rintro ρ ⟨z0, z3, z4, z5, z6, -⟩
  refine rg (r (mv z6) (r (Rn.cast (v' := .bool false) (nt rfl) rfl) (r (Rn.cast (v' := .bool false) (mv rfl) rfl) (gn rfl rfl rfl (gn rfl rfl rfl (gn rfl rfl rfl (r (Rn.cast (v' := .bool false) (pk rfl rfl) rfl) (r (Rn.cast (v' := .bool false) (mv rfl) rfl) (gy rfl rfl rfl (r (fa Tryz.underlying29 rfl ti2 rfl z3) (gy rfl rfl rfl (r (ldb Tryz.underlying2 rfl rfl b6 rfl) (gy rfl rfl rfl (r (Rn.cast (v' := .bool false) (bi rfl rfl rfl) rfl) (gy rfl rfl rfl (r (Rn.cast (v' := .bool false) (mv rfl) rfl) (gn rfl rfl rfl (gn rfl rfl rfl (gn rfl rfl rfl (gy rfl rfl rfl (r (Rn.cast (v' := .bool false) (pk rfl rfl) rfl) (r (Rn.cast (v' := .bool false) (pk rfl rfl) rfl) (r (Rn.cast (v' := .bool false) (mv rfl) rfl) (gy rfl rfl rfl (r (fa Tryz.underlying29 rfl ti2 rfl z3) (gy rfl rfl rfl (r (ldb Tryz.underlying2 rfl rfl b6 rfl) (gy rfl rfl rfl (r (Rn.cast (v' := .bool true) (bi rfl rfl rfl) rfl) (gy rfl rfl rfl (r (Rn.cast (v' := .bool true) (mv rfl) rfl) (gy rfl rfl rfl (r (fa Tryz.underlying29 rfl ti2 rfl z3) (gy rfl rfl rfl (r (ldb Tryz.underlying2 rfl rfl b6 rfl) (gy rfl rfl rfl (r (Rn.cast (v' := .bool false) (bi rfl rfl rfl) rfl) (gy rfl rfl rfl (r (Rn.cast (v' := .bool false) (pk rfl rfl) rfl) (r (Rn.cast (v' := .bool false) (pk rfl rfl) rfl) (re (cf rfl (sk (sq (sq ?_)))))))))))))))))))))))))))))))))))))))))))))
  refine gen (fun ρ => ρ 0 = .pointer (some ⟨ge, 0, none⟩) ∧ ρ 3 = .pointer (some ⟨g3, 0, none⟩) ∧ ρ 4 = .pointer (some ⟨g4, 0, none⟩) ∧ ρ 5 = .pointer (some ⟨g5, 0, none⟩) ∧ ρ 6 = .bool true ∧ True) ⟨z0, z3, z4, z5, z6, trivial⟩ ?_
  rintro ρ ⟨z0, z3, z4, z5, z6, -⟩
  refine rg (r (Rn.cast (v' := .bool true) (mv z6) rfl) (r (Rn.cast (v' := .bool true) (mv rfl) rfl) (gy rfl rfl rfl (r (fa Tryz.underlying29 rfl ti9 rfl z3) (gy rfl rfl rfl (r (ldb Tryz.underlying9 rfl rfl b6 rfl) (gy rfl rfl rfl (cl go61 (impl_ValidName (by omega)) (ac rfl an) ?_))))))))
  rintro r wv ⟨er, cv9⟩
  rw [decide_eq_true hnm] at er
  subst er
  have H5 : Hold w F wv [rB ge 60 ((eC s b gp gw gd tv qn actv usd opn gl gk)), rPl gp (logs s b + s * b) rdf, rR kE 115 tv tab, rMW gw (wk.map kfP), rMW gd (du.map kfP), rPool 2 pl, rB gl 2 ([.int .i64 (-1)]), rB g3 29 ([.int .i64 1, .string nm, .string dt, .int .i64 0]), rB g4 42 ([.int .i64 0, .string ⟨#[]⟩, .slice none 0 0, .int .i64 0, .int .i64 0, .int .i64 0, .int .i64 0, .int .i64 0, .int .i64 0]), rB g5 142 ([.nilFunc, .func (.func 53) [.pointer (some ⟨ge, 0, none⟩)].toArray [].toArray, .func (.func 54) [.pointer (some ⟨ge, 0, none⟩)].toArray [].toArray, .func (.func 55) [.pointer (some ⟨ge, 0, none⟩)].toArray [].toArray, .func (.func 56) [.pointer (some ⟨ge, 0, none⟩)].toArray [].toArray, .func (.func 57) [.pointer (some ⟨ge, 0, none⟩)].toArray [].toArray, .func (.func 58) [.pointer (some ⟨ge, 0, none⟩)].toArray [].toArray, .func (.func 59) [.pointer (some ⟨ge, 0, none⟩)].toArray [].toArray, .func (.func 60) [.pointer (some ⟨ge, 0, none⟩)].toArray [].toArray])] := Hold.t H4 cv9
  clear H4
  clear cv9
  refine gy rfl rfl rfl (r (Rn.cast (v' := .bool false) (nt rfl) rfl) (r (Rn.cast (v' := .bool false) (pk rfl rfl) rfl) (re (cf rfl (sk (sq ?_))))))
  refine sq ?_
  refine rde mixed ?_
  intro w8 c8
  have H6 : Hold w F w8 [rB ge 60 ((eC s b gp gw gd tv qn actv usd opn gl gk)), rPl gp (logs s b + s * b) rdf, rR kE 115 tv tab, rMW gw (wk.map kfP), rMW gd (du.map kfP), rPool 2 pl, rB gl 2 ([.int .i64 (-1)]), rB g3 29 ([.int .i64 1, .string nm, .string dt, .int .i64 0]), rB g4 42 ([.int .i64 0, .string ⟨#[]⟩, .slice none 0 0, .int .i64 0, .int .i64 0, .int .i64 0, .int .i64 0, .int .i64 0, .int .i64 0]), rB g5 142 ([.nilFunc, .func (.func 53) [.pointer (some ⟨ge, 0, none⟩)].toArray [].toArray, .func (.func 54) [.pointer (some ⟨ge, 0, none⟩)].toArray [].toArray, .func (.func 55) [.pointer (some ⟨ge, 0, none⟩)].toArray [].toArray, .func (.func 56) [.pointer (some ⟨ge, 0, none⟩)].toArray [].toArray, .func (.func 57) [.pointer (some ⟨ge, 0, none⟩)].toArray [].toArray, .func (.func 58) [.pointer (some ⟨ge, 0, none⟩)].toArray [].toArray, .func (.func 59) [.pointer (some ⟨ge, 0, none⟩)].toArray [].toArray, .func (.func 60) [.pointer (some ⟨ge, 0, none⟩)].toArray [].toArray])] := Hold.t H5 c8
  clear H5
  clear c8
  have H9d0 : Hold w8 [] w8 [] := Hold.start w8
  refine ⟨fun w' => Ch [] w8 w', Ch.refl _ _, ?_⟩
  have b10 : B w8 ge 60 ((eC s b gp gw gd tv qn actv usd opn gl gk)) := Hold.blk H6 0 rfl
  have b11 : B w8 g3 29 ([.int .i64 1, .string nm, .string dt, .int .i64 0]) := Hold.blk H6 7 rfl
  have b12 : MpW w8 gw (wk.map kfP) := Hold.mpw H6 3 rfl
  refine edt 0 rfl (by kernel_rfl) (fun w' hS => mv z0) (edt 1 rfl (by kernel_rfl) (fun w' hS => nck rfl) (edt 2 rfl (by kernel_rfl) (fun w' hS => fa Tryz.underlying60 rfl ti56 rfl rfl) (edt 3 rfl (by kernel_rfl) (fun w' hS => fa Tryz.underlying56 rfl ti54 rfl rfl) (edt 4 rfl (by kernel_rfl) (fun w' hS => fa Tryz.underlying54 rfl ti52 rfl rfl) (edt 5 rfl (by kernel_rfl) (fun w' hS => ldb Tryz.underlying52 rfl rfl (hS.b0 b10) rfl) (edt 6 rfl (by kernel_rfl) (fun w' hS => fa Tryz.underlying29 rfl ti9 rfl z3) (edt 7 rfl (by kernel_rfl) (fun w' hS => ldb Tryz.underlying9 rfl rfl (hS.b0 b11) rfl) (edt 8 rfl (by kernel_rfl) (fun w' hS => Rn.cast (v' := .tuple #[.agg #[.int .i64 0, .string (⟨#[]⟩ : ByteArray), .int .i64 0, .slice none 0 0], .bool false]) (lkps Tryz.underlying52 Tryz.underlying9 ti91 rfl rfl (MpW.s (MpW.t hS b12))) (by rw [look_kf, hfk]; rfl)) (edt 9 rfl (by kernel_rfl) (fun w' hS => mv rfl) (edt 10 rfl (by kernel_rfl) (fun w' hS => xt rfl rfl) (edt 11 rfl (by kernel_rfl) (fun w' hS => xt rfl rfl) (ed1 12 (by kernel_rfl) <| euf rfl (xal ti91) ?_))))))))))))
  rintro _ w13 ⟨g7, e13, rfl, -, b13, c13⟩
  have H7d : Hold w8 [] w13 [rB g7 91 ([.int .i64 0, .string ⟨#[]⟩, .int .i64 0, .slice none 0 0])] := Hold.newB H9d0 e13 b13 c13
  clear H9d0
  clear e13 b13 c13
  refine ⟨.inr (Hold.ch H7d), ?_⟩
  have b14 : B w13 g7 91 ([.int .i64 0, .string ⟨#[]⟩, .int .i64 0, .slice none 0 0]) := Hold.blk H7d 0 rfl
  refine ed1 13 (by kernel_rfl) <| euf0 rfl (xst (vs := [.int .i64 0, .string (⟨#[]⟩ : ByteArray), .int .i64 0, .slice none 0 0]) ti91 rfl rfl rfl b14 rfl (Nat.le_of_ble_eq_true rfl) (one_all rfl)) ?_
  rintro w15 ⟨-, b15, c15⟩
  have H8d : Hold w8 [] w15 [rB g7 91 ([.int .i64 0, .string (⟨#[]⟩ : ByteArray), .int .i64 0, .slice none 0 0])] := Hold.setB H7d 0 rfl b15 c15 rfl
  clear H7d
  clear b15 c15
  refine ⟨.inr (Hold.ch H8d), ?_⟩
  have H9 : Hold w F w15 [rB ge 60 ((eC s b gp gw gd tv qn actv usd opn gl gk)), rPl gp (logs s b + s * b) rdf, rR kE 115 tv tab, rMW gw (wk.map kfP), rMW gd (du.map kfP), rPool 2 pl, rB gl 2 ([.int .i64 (-1)]), rB g3 29 ([.int .i64 1, .string nm, .string dt, .int .i64 0]), rB g4 42 ([.int .i64 0, .string ⟨#[]⟩, .slice none 0 0, .int .i64 0, .int .i64 0, .int .i64 0, .int .i64 0, .int .i64 0, .int .i64 0]), rB g5 142 ([.nilFunc, .func (.func 53) [.pointer (some ⟨ge, 0, none⟩)].toArray [].toArray, .func (.func 54) [.pointer (some ⟨ge, 0, none⟩)].toArray [].toArray, .func (.func 55) [.pointer (some ⟨ge, 0, none⟩)].toArray [].toArray, .func (.func 56) [.pointer (some ⟨ge, 0, none⟩)].toArray [].toArray, .func (.func 57) [.pointer (some ⟨ge, 0, none⟩)].toArray [].toArray, .func (.func 58) [.pointer (some ⟨ge, 0, none⟩)].toArray [].toArray, .func (.func 59) [.pointer (some ⟨ge, 0, none⟩)].toArray [].toArray, .func (.func 60) [.pointer (some ⟨ge, 0, none⟩)].toArray [].toArray]), rB g7 91 ([.int .i64 0, .string (⟨#[]⟩ : ByteArray), .int .i64 0, .slice none 0 0])] := Hold.news H6 H8d
  clear H8d H6
  refine ed1 14 (by kernel_rfl) <| eur rfl (sa rfl) (.inl (by kernel_rfl)) ?_
  refine edd (by kernel_rfl) ?_
  refine sq ?_
  refine gen (fun ρ => ρ 3 = .pointer (some ⟨g3, 0, none⟩) ∧ ρ 4 = .pointer (some ⟨g4, 0, none⟩) ∧ ρ 5 = .pointer (some ⟨g5, 0, none⟩) ∧ ρ 6 = .bool true ∧ ρ 8 = .bool false ∧ True) ⟨z3, z4, z5, z6, rfl, trivial⟩ ?_
  rintro ρ ⟨z3, z4, z5, z6, z8, -⟩
  have b16 : B w15 g3 29 ([.int .i64 1, .string nm, .string dt, .int .i64 0]) := Hold.blk H9 7 rfl
  refine rg (r (Rn.cast (v' := .bool true) (mv z6) rfl) (r (Rn.cast (v' := .bool true) (mv rfl) rfl) (gy rfl rfl rfl (r (fa Tryz.underlying29 rfl ti2 rfl z3) (gy rfl rfl rfl (r (ldb Tryz.underlying2 rfl rfl b16 rfl) (gy rfl rfl rfl (r (Rn.cast (v' := .bool false) (bi rfl rfl rfl) rfl) (r (Rn.cast (v' := .bool false) (pk rfl rfl) rfl) (r (Rn.cast (v' := .bool false) (mv rfl) rfl) (gn rfl rfl rfl (gn rfl rfl rfl (r (Rn.cast (v' := .bool false) (pk rfl rfl) rfl) (re (cf rfl (sk ?_))))))))))))))))
  refine sq ?_
  refine gen (fun ρ => ρ 3 = .pointer (some ⟨g3, 0, none⟩) ∧ ρ 4 = .pointer (some ⟨g4, 0, none⟩) ∧ ρ 5 = .pointer (some ⟨g5, 0, none⟩) ∧ True) ⟨z3, z4, z5, trivial⟩ ?_
  rintro ρ ⟨z3, z4, z5, -⟩
  refine rde mixed ?_
  intro w17 c17
  have H10 : Hold w F w17 [rB ge 60 ((eC s b gp gw gd tv qn actv usd opn gl gk)), rPl gp (logs s b + s * b) rdf, rR kE 115 tv tab, rMW gw (wk.map kfP), rMW gd (du.map kfP), rPool 2 pl, rB gl 2 ([.int .i64 (-1)]), rB g3 29 ([.int .i64 1, .string nm, .string dt, .int .i64 0]), rB g4 42 ([.int .i64 0, .string ⟨#[]⟩, .slice none 0 0, .int .i64 0, .int .i64 0, .int .i64 0, .int .i64 0, .int .i64 0, .int .i64 0]), rB g5 142 ([.nilFunc, .func (.func 53) [.pointer (some ⟨ge, 0, none⟩)].toArray [].toArray, .func (.func 54) [.pointer (some ⟨ge, 0, none⟩)].toArray [].toArray, .func (.func 55) [.pointer (some ⟨ge, 0, none⟩)].toArray [].toArray, .func (.func 56) [.pointer (some ⟨ge, 0, none⟩)].toArray [].toArray, .func (.func 57) [.pointer (some ⟨ge, 0, none⟩)].toArray [].toArray, .func (.func 58) [.pointer (some ⟨ge, 0, none⟩)].toArray [].toArray, .func (.func 59) [.pointer (some ⟨ge, 0, none⟩)].toArray [].toArray, .func (.func 60) [.pointer (some ⟨ge, 0, none⟩)].toArray [].toArray]), rB g7 91 ([.int .i64 0, .string (⟨#[]⟩ : ByteArray), .int .i64 0, .slice none 0 0])] := Hold.t H9 c17
  clear H9
  clear c17
  have H11 : Hold w F w17 [rB ge 60 ((eC s b gp gw gd tv qn actv usd opn gl gk)), rPl gp (logs s b + s * b) rdf, rR kE 115 tv tab, rMW gw (wk.map kfP), rMW gd (du.map kfP), rPool 2 pl, rB gl 2 ([.int .i64 (-1)]), rB g4 42 ([.int .i64 0, .string ⟨#[]⟩, .slice none 0 0, .int .i64 0, .int .i64 0, .int .i64 0, .int .i64 0, .int .i64 0, .int .i64 0]), rB g3 29 ([.int .i64 1, .string nm, .string dt, .int .i64 0]), rB g5 142 ([.nilFunc, .func (.func 53) [.pointer (some ⟨ge, 0, none⟩)].toArray [].toArray, .func (.func 54) [.pointer (some ⟨ge, 0, none⟩)].toArray [].toArray, .func (.func 55) [.pointer (some ⟨ge, 0, none⟩)].toArray [].toArray, .func (.func 56) [.pointer (some ⟨ge, 0, none⟩)].toArray [].toArray, .func (.func 57) [.pointer (some ⟨ge, 0, none⟩)].toArray [].toArray, .func (.func 58) [.pointer (some ⟨ge, 0, none⟩)].toArray [].toArray, .func (.func 59) [.pointer (some ⟨ge, 0, none⟩)].toArray [].toArray, .func (.func 60) [.pointer (some ⟨ge, 0, none⟩)].toArray [].toArray]), rB g7 91 ([.int .i64 0, .string (⟨#[]⟩ : ByteArray), .int .i64 0, .slice none 0 0])] := Hold.re H10 [0, 1, 2, 3, 4, 5, 6, 8, 7, 9, 10] (by kernel_rfl) (by rfl)
  clear H10
  obtain ⟨Fd18, hFd18, nd18, Kd18, Xd18, sd18⟩ := Hold.frontx (Γ := [rB ge 60 ((eC s b gp gw gd tv qn actv usd opn gl gk)), rPl gp (logs s b + s * b) rdf, rR kE 115 tv tab, rMW gw (wk.map kfP), rMW gd (du.map kfP), rPool 2 pl, rB gl 2 ([.int .i64 (-1)]), rB g4 42 ([.int .i64 0, .string ⟨#[]⟩, .slice none 0 0, .int .i64 0, .int .i64 0, .int .i64 0, .int .i64 0, .int .i64 0, .int .i64 0])]) (Δ := [rB g3 29 ([.int .i64 1, .string nm, .string dt, .int .i64 0]), rB g5 142 ([.nilFunc, .func (.func 53) [.pointer (some ⟨ge, 0, none⟩)].toArray [].toArray, .func (.func 54) [.pointer (some ⟨ge, 0, none⟩)].toArray [].toArray, .func (.func 55) [.pointer (some ⟨ge, 0, none⟩)].toArray [].toArray, .func (.func 56) [.pointer (some ⟨ge, 0, none⟩)].toArray [].toArray, .func (.func 57) [.pointer (some ⟨ge, 0, none⟩)].toArray [].toArray, .func (.func 58) [.pointer (some ⟨ge, 0, none⟩)].toArray [].toArray, .func (.func 59) [.pointer (some ⟨ge, 0, none⟩)].toArray [].toArray, .func (.func 60) [.pointer (some ⟨ge, 0, none⟩)].toArray [].toArray]), rB g7 91 ([.int .i64 0, .string (⟨#[]⟩ : ByteArray), .int .i64 0, .slice none 0 0])]) H11
  have H18d0 : Hold w17 Fd18 w17 [rB ge 60 ((eC s b gp gw gd tv qn actv usd opn gl gk)), rPl gp (logs s b + s * b) rdf, rR kE 115 tv tab, rMW gw (wk.map kfP), rMW gd (du.map kfP), rPool 2 pl, rB gl 2 ([.int .i64 (-1)]), rB g4 42 ([.int .i64 0, .string ⟨#[]⟩, .slice none 0 0, .int .i64 0, .int .i64 0, .int .i64 0, .int .i64 0, .int .i64 0, .int .i64 0])] := Hold.begin hFd18 nd18
  refine ⟨fun w' => Ch Fd18 w17 w', Ch.refl _ _, ?_⟩
  obtain ⟨_, ⟨rfl, b19⟩, x19⟩ := Xd18 0 (rB g3 29 ([.int .i64 1, .string nm, .string dt, .int .i64 0])) rfl
  obtain ⟨_, ⟨rfl, b20⟩, x20⟩ := Xd18 1 (rB g5 142 ([.nilFunc, .func (.func 53) [.pointer (some ⟨ge, 0, none⟩)].toArray [].toArray, .func (.func 54) [.pointer (some ⟨ge, 0, none⟩)].toArray [].toArray, .func (.func 55) [.pointer (some ⟨ge, 0, none⟩)].toArray [].toArray, .func (.func 56) [.pointer (some ⟨ge, 0, none⟩)].toArray [].toArray, .func (.func 57) [.pointer (some ⟨ge, 0, none⟩)].toArray [].toArray, .func (.func 58) [.pointer (some ⟨ge, 0, none⟩)].toArray [].toArray, .func (.func 59) [.pointer (some ⟨ge, 0, none⟩)].toArray [].toArray, .func (.func 60) [.pointer (some ⟨ge, 0, none⟩)].toArray [].toArray])) rfl
  obtain ⟨F21, hF21, n21, s21, K21⟩ := Hold.front (Γ := [rB ge 60 ((eC s b gp gw gd tv qn actv usd opn gl gk)), rPl gp (logs s b + s * b) rdf, rR kE 115 tv tab, rMW gw (wk.map kfP), rMW gd (du.map kfP), rPool 2 pl, rB gl 2 ([.int .i64 (-1)])]) (Δ := [rB g4 42 ([.int .i64 0, .string ⟨#[]⟩, .slice none 0 0, .int .i64 0, .int .i64 0, .int .i64 0, .int .i64 0, .int .i64 0, .int .i64 0])]) H18d0
  refine edt 0 rfl (by kernel_rfl) (fun w' hS => fa Tryz.underlying29 rfl ti2 rfl z3) (edt 1 rfl (by kernel_rfl) (fun w' hS => ldb Tryz.underlying2 rfl rfl (hS.b b19 (x19 _ (by simp))) rfl) (edt 2 rfl (by kernel_rfl) (fun w' hS => ixar 1 Tryz.underlying142 ti94 z5 rfl (by decide)) (edt 3 rfl (by kernel_rfl) (fun w' hS => ldb Tryz.underlying94 rfl rfl (hS.b b20 (x20 _ (by simp))) rfl) (edt 4 rfl (by kernel_rfl) (fun w' hS => lab [.int .i64 1, .string nm, .string dt, .int .i64 0] Tryz.underlying29 rfl ti29 z3 (hS.b b19 (x19 _ (by simp))) rfl rfl) (ed1 5 (by kernel_rfl) <| eucb rfl rfl go53 (ac rfl an) (eng_writeFile_ok hF21 n21 hg hsz hnm hL hcap hfr hfk how hod) ?_)))))
  rintro r ww ⟨op', rd', a', us', tab', k, rfl, hS, Hw⟩
  have H12d : Hold w17 Fd18 ww [rB ge 60 ((eC s b gp gw gd tv qn a' us' op' gl gk)), rPl gp (logs s b + s * b) rd', rR kE 115 tv tab', rMW gw ((wk ++ [k]).map kfP), rMW gd (du.map kfP), rPool 2 ((k.lv, k.ls) :: pl), rB gl 2 ([.int .i64 (-1)]), rB g4 42 ([.int .i64 0, .string ⟨#[]⟩, .slice none 0 0, .int .i64 0, .int .i64 0, .int .i64 0, .int .i64 0, .int .i64 0, .int .i64 0])] := Hold.call K21 Hw
  clear H18d0
  clear K21 hF21 n21 s21
  clear Hw
  refine ⟨.inr (Hold.ch H12d), ?_⟩
  have H13 : Hold w F ww [rB ge 60 ((eC s b gp gw gd tv qn a' us' op' gl gk)), rPl gp (logs s b + s * b) rd', rR kE 115 tv tab', rMW gw ((wk ++ [k]).map kfP), rMW gd (du.map kfP), rPool 2 ((k.lv, k.ls) :: pl), rB gl 2 ([.int .i64 (-1)]), rB g4 42 ([.int .i64 0, .string ⟨#[]⟩, .slice none 0 0, .int .i64 0, .int .i64 0, .int .i64 0, .int .i64 0, .int .i64 0, .int .i64 0]), rB g3 29 ([.int .i64 1, .string nm, .string dt, .int .i64 0]), rB g5 142 ([.nilFunc, .func (.func 53) [.pointer (some ⟨ge, 0, none⟩)].toArray [].toArray, .func (.func 54) [.pointer (some ⟨ge, 0, none⟩)].toArray [].toArray, .func (.func 55) [.pointer (some ⟨ge, 0, none⟩)].toArray [].toArray, .func (.func 56) [.pointer (some ⟨ge, 0, none⟩)].toArray [].toArray, .func (.func 57) [.pointer (some ⟨ge, 0, none⟩)].toArray [].toArray, .func (.func 58) [.pointer (some ⟨ge, 0, none⟩)].toArray [].toArray, .func (.func 59) [.pointer (some ⟨ge, 0, none⟩)].toArray [].toArray, .func (.func 60) [.pointer (some ⟨ge, 0, none⟩)].toArray [].toArray]), rB g7 91 ([.int .i64 0, .string (⟨#[]⟩ : ByteArray), .int .i64 0, .slice none 0 0])] := Hold.call Kd18 H12d
  clear H12d H11
  have b22 : B ww g4 42 ([.int .i64 0, .string ⟨#[]⟩, .slice none 0 0, .int .i64 0, .int .i64 0, .int .i64 0, .int .i64 0, .int .i64 0, .int .i64 0]) := Hold.blk H13 7 rfl
  refine ed1 6 (by kernel_rfl) <| euf0 rfl (xst (vs := [.int .i64 0, .string noB, .slice none 0 0, .int .i64 0, .int .i64 0, .int .i64 0, .int .i64 0, .int .i64 0, .int .i64 0]) ti42 z4 rfl rfl b22 rfl (Nat.le_of_ble_eq_true rfl) (one_all rfl)) ?_
  rintro w23 ⟨-, b23, c23⟩
  have H14 : Hold w F w23 [rB ge 60 ((eC s b gp gw gd tv qn a' us' op' gl gk)), rPl gp (logs s b + s * b) rd', rR kE 115 tv tab', rMW gw ((wk ++ [k]).map kfP), rMW gd (du.map kfP), rPool 2 ((k.lv, k.ls) :: pl), rB gl 2 ([.int .i64 (-1)]), rB g4 42 ([.int .i64 0, .string noB, .slice none 0 0, .int .i64 0, .int .i64 0, .int .i64 0, .int .i64 0, .int .i64 0, .int .i64 0]), rB g3 29 ([.int .i64 1, .string nm, .string dt, .int .i64 0]), rB g5 142 ([.nilFunc, .func (.func 53) [.pointer (some ⟨ge, 0, none⟩)].toArray [].toArray, .func (.func 54) [.pointer (some ⟨ge, 0, none⟩)].toArray [].toArray, .func (.func 55) [.pointer (some ⟨ge, 0, none⟩)].toArray [].toArray, .func (.func 56) [.pointer (some ⟨ge, 0, none⟩)].toArray [].toArray, .func (.func 57) [.pointer (some ⟨ge, 0, none⟩)].toArray [].toArray, .func (.func 58) [.pointer (some ⟨ge, 0, none⟩)].toArray [].toArray, .func (.func 59) [.pointer (some ⟨ge, 0, none⟩)].toArray [].toArray, .func (.func 60) [.pointer (some ⟨ge, 0, none⟩)].toArray [].toArray]), rB g7 91 ([.int .i64 0, .string (⟨#[]⟩ : ByteArray), .int .i64 0, .slice none 0 0])] := Hold.setB H13 7 rfl b23 c23 rfl
  clear H13
  clear b23 c23
  refine ⟨.inl (by kernel_rfl), ?_⟩
  refine edd (by kernel_rfl) ?_
  refine rt ?_
  have b24 : B w23 g4 42 ([.int .i64 0, .string noB, .slice none 0 0, .int .i64 0, .int .i64 0, .int .i64 0, .int .i64 0, .int .i64 0, .int .i64 0]) := Hold.blk H14 7 rfl
  have H15 : Hold w F w23 [rB ge 60 ((eC s b gp gw gd tv qn a' us' op' gl gk)), rPl gp (logs s b + s * b) rd', rR kE 115 tv tab', rMW gw ((wk ++ [k]).map kfP), rMW gd (du.map kfP), rPool 2 ((k.lv, k.ls) :: pl), rB gl 2 ([.int .i64 (-1)])] := (show Hold w F w23 ([rB ge 60 ((eC s b gp gw gd tv qn a' us' op' gl gk)), rPl gp (logs s b + s * b) rd', rR kE 115 tv tab', rMW gw ((wk ++ [k]).map kfP), rMW gd (du.map kfP), rPool 2 ((k.lv, k.ls) :: pl), rB gl 2 ([.int .i64 (-1)])] ++ [rB g4 42 ([.int .i64 0, .string noB, .slice none 0 0, .int .i64 0, .int .i64 0, .int .i64 0, .int .i64 0, .int .i64 0, .int .i64 0]), rB g3 29 ([.int .i64 1, .string nm, .string dt, .int .i64 0]), rB g5 142 ([.nilFunc, .func (.func 53) [.pointer (some ⟨ge, 0, none⟩)].toArray [].toArray, .func (.func 54) [.pointer (some ⟨ge, 0, none⟩)].toArray [].toArray, .func (.func 55) [.pointer (some ⟨ge, 0, none⟩)].toArray [].toArray, .func (.func 56) [.pointer (some ⟨ge, 0, none⟩)].toArray [].toArray, .func (.func 57) [.pointer (some ⟨ge, 0, none⟩)].toArray [].toArray, .func (.func 58) [.pointer (some ⟨ge, 0, none⟩)].toArray [].toArray, .func (.func 59) [.pointer (some ⟨ge, 0, none⟩)].toArray [].toArray, .func (.func 60) [.pointer (some ⟨ge, 0, none⟩)].toArray [].toArray]), rB g7 91 ([.int .i64 0, .string (⟨#[]⟩ : ByteArray), .int .i64 0, .slice none 0 0])]) from Hold.re H14 [0, 1, 2, 3, 4, 5, 6, 7, 8, 9, 10] (by kernel_rfl) (by rfl)).drop
  clear H14
  exact finc  (cs := [.int .i64 0, .string noB, .slice none 0 0, .int .i64 0, .int .i64 0, .int .i64 0, .int .i64 0, .int .i64 0, .int .i64 0]) Tryz.results34 Tryz.underlying42 rfl ti42 z4 b24 rfl  ⟨_, _, _, _, _, _, rfl, hS, H15⟩
theorem call_sync {w : World} {F : List Nat} {ge gp gw gd gl gk : Nat} {tv : Value} {s b qn actv usd opn : Int} {rdf : Int → List Int} {tab : List (Int × Bool)} {wk du : List Kf} {pl : List (Value × List Int)} {nm dt : ByteArray} (h : Hs w [rB ge 60 ((eC s b gp gw gd tv qn actv usd opn gl gk)), rPl gp (logs s b + s * b) rdf, rR kE 115 tv tab, rMW gw (wk.map kfP), rMW gd (du.map kfP), rPool 2 pl, rB gl 2 ([.int .i64 (-1)])] F) (nd : F.Nodup) (hg : geo s b) (lt : tab.length ≤ 2000) (hwk : ∀ k, k ∈ wk → KfOk tab.length pl k) (hq : 0 ≤ qn ∧ qn ≤ 1000000) (hfk : findK wk (⟨#[]⟩ : ByteArray) = none) : Ret Tryz.prog 34 #[.pointer (some ⟨ge, 0, none⟩), .agg #[.int .i64 6, .string (⟨#[]⟩ : ByteArray), .string (⟨#[]⟩ : ByteArray), .int .i64 0]] w (fun r w' => ∃ op' rd' gd' tv', r = ansV 0 noB ∧ (∀ c, logs s b ≤ c → rd' c = rdf c) ∧ Hold w F w' [rB ge 60 ((eC s b gp gw gd' tv' (qn + 1) actv usd op' gl gk)), rPl gp (logs s b + s * b) rd', rR kE 115 tv' (ownT tab (ownB wk)), rMW gw (wk.map kfP), rMW gd' (wk.map kfP), rPool 2 pl, rB gl 2 ([.int .i64 (-1)])]) := by
  refine enter Tryz.func34 rfl Tryz.ntmps34 (by rfl) (by rfl) ?_
  have H0 : Hold w F w [rB ge 60 ((eC s b gp gw gd tv qn actv usd opn gl gk)), rPl gp (logs s b + s * b) rdf, rR kE 115 tv tab, rMW gw (wk.map kfP), rMW gd (du.map kfP), rPool 2 pl, rB gl 2 ([.int .i64 (-1)])] := Hold.begin h nd
  refine sq (rg (ef (xbx (t := 29) rfl rfl) ?_))
  rintro _ w1 ⟨g3, e1, rfl, -, b1, c1⟩
  have H1 : Hold w F w1 [rB ge 60 ((eC s b gp gw gd tv qn actv usd opn gl gk)), rPl gp (logs s b + s * b) rdf, rR kE 115 tv tab, rMW gw (wk.map kfP), rMW gd (du.map kfP), rPool 2 pl, rB gl 2 ([.int .i64 (-1)]), rB g3 29 ([.int .i64 6, .string (⟨#[]⟩ : ByteArray), .string (⟨#[]⟩ : ByteArray), .int .i64 0])] := Hold.newB H0 e1 b1 c1
  clear H0
  clear e1 b1 c1
  refine ef (xal ti42) ?_
  rintro _ w2 ⟨g4, e2, rfl, -, b2, c2⟩
  have H2 : Hold w F w2 [rB ge 60 ((eC s b gp gw gd tv qn actv usd opn gl gk)), rPl gp (logs s b + s * b) rdf, rR kE 115 tv tab, rMW gw (wk.map kfP), rMW gd (du.map kfP), rPool 2 pl, rB gl 2 ([.int .i64 (-1)]), rB g3 29 ([.int .i64 6, .string (⟨#[]⟩ : ByteArray), .string (⟨#[]⟩ : ByteArray), .int .i64 0]), rB g4 42 ([.int .i64 0, .string ⟨#[]⟩, .slice none 0 0, .int .i64 0, .int .i64 0, .int .i64 0, .int .i64 0, .int .i64 0, .int .i64 0])] := Hold.newB H1 e2 b2 c2
  clear H1
  clear e2 b2 c2
  refine re (sq (rg (r (mv rfl) (r (mf (vs := [.pointer (some ⟨ge, 0, none⟩)]) (cs := []) (ac rfl an) an) (r (mv rfl) (r (mf (vs := [.pointer (some ⟨ge, 0, none⟩)]) (cs := []) (ac rfl an) an) (r (mv rfl) (r (mf (vs := [.pointer (some ⟨ge, 0, none⟩)]) (cs := []) (ac rfl an) an) (r (mv rfl) (r (mf (vs := [.pointer (some ⟨ge, 0, none⟩)]) (cs := []) (ac rfl an) an) (r (mv rfl) (r (mf (vs := [.pointer (some ⟨ge, 0, none⟩)]) (cs := []) (ac rfl an) an) (r (mv rfl) (r (mf (vs := [.pointer (some ⟨ge, 0, none⟩)]) (cs := []) (ac rfl an) an) (r (mv rfl) (r (mf (vs := [.pointer (some ⟨ge, 0, none⟩)]) (cs := []) (ac rfl an) an) (r (mv rfl) (r (mf (vs := [.pointer (some ⟨ge, 0, none⟩)]) (cs := []) (ac rfl an) an) (r (bda (r := [.nilFunc, .func (.func 53) [.pointer (some ⟨ge, 0, none⟩)].toArray [].toArray, .func (.func 54) [.pointer (some ⟨ge, 0, none⟩)].toArray [].toArray, .func (.func 55) [.pointer (some ⟨ge, 0, none⟩)].toArray [].toArray, .func (.func 56) [.pointer (some ⟨ge, 0, none⟩)].toArray [].toArray, .func (.func 57) [.pointer (some ⟨ge, 0, none⟩)].toArray [].toArray, .func (.func 58) [.pointer (some ⟨ge, 0, none⟩)].toArray [].toArray, .func (.func 59) [.pointer (some ⟨ge, 0, none⟩)].toArray [].toArray, .func (.func 60) [.pointer (some ⟨ge, 0, none⟩)].toArray [].toArray]) [(0, 1), (1, 1), (2, 1), (3, 1), (4, 1), (5, 1), (6, 1), (7, 1), (8, 1)] (by decide) Tryz.underlying142 ti142 ti94 (pc (v := .func (.func 53) [.pointer (some ⟨ge, 0, none⟩)].toArray [].toArray) (c := [.func (.func 53) [.pointer (some ⟨ge, 0, none⟩)].toArray [].toArray]) rfl (cel1 rfl) (pc (v := .func (.func 54) [.pointer (some ⟨ge, 0, none⟩)].toArray [].toArray) (c := [.func (.func 54) [.pointer (some ⟨ge, 0, none⟩)].toArray [].toArray]) rfl (cel1 rfl) (pc (v := .func (.func 55) [.pointer (some ⟨ge, 0, none⟩)].toArray [].toArray) (c := [.func (.func 55) [.pointer (some ⟨ge, 0, none⟩)].toArray [].toArray]) rfl (cel1 rfl) (pc (v := .func (.func 56) [.pointer (some ⟨ge, 0, none⟩)].toArray [].toArray) (c := [.func (.func 56) [.pointer (some ⟨ge, 0, none⟩)].toArray [].toArray]) rfl (cel1 rfl) (pc (v := .func (.func 57) [.pointer (some ⟨ge, 0, none⟩)].toArray [].toArray) (c := [.func (.func 57) [.pointer (some ⟨ge, 0, none⟩)].toArray [].toArray]) rfl (cel1 rfl) (pc (v := .func (.func 58) [.pointer (some ⟨ge, 0, none⟩)].toArray [].toArray) (c := [.func (.func 58) [.pointer (some ⟨ge, 0, none⟩)].toArray [].toArray]) rfl (cel1 rfl) (pc (v := .func (.func 59) [.pointer (some ⟨ge, 0, none⟩)].toArray [].toArray) (c := [.func (.func 59) [.pointer (some ⟨ge, 0, none⟩)].toArray [].toArray]) rfl (cel1 rfl) (pc (v := .func (.func 60) [.pointer (some ⟨ge, 0, none⟩)].toArray [].toArray) (c := [.func (.func 60) [.pointer (some ⟨ge, 0, none⟩)].toArray [].toArray]) rfl (cel1 rfl) pn)))))))) (by kernel_rfl)) (ef (xal ti142) ?_))))))))))))))))))))
  rintro _ w3 ⟨g5, e3, rfl, -, b3, c3⟩
  have H3 : Hold w F w3 [rB ge 60 ((eC s b gp gw gd tv qn actv usd opn gl gk)), rPl gp (logs s b + s * b) rdf, rR kE 115 tv tab, rMW gw (wk.map kfP), rMW gd (du.map kfP), rPool 2 pl, rB gl 2 ([.int .i64 (-1)]), rB g3 29 ([.int .i64 6, .string (⟨#[]⟩ : ByteArray), .string (⟨#[]⟩ : ByteArray), .int .i64 0]), rB g4 42 ([.int .i64 0, .string ⟨#[]⟩, .slice none 0 0, .int .i64 0, .int .i64 0, .int .i64 0, .int .i64 0, .int .i64 0, .int .i64 0]), rB g5 142 ([.nilFunc, .nilFunc, .nilFunc, .nilFunc, .nilFunc, .nilFunc, .nilFunc, .nilFunc, .nilFunc])] := Hold.newB H2 e3 b3 c3
  clear H2
  clear e3 b3 c3
  have b4 : B w3 g5 142 ([.nilFunc, .nilFunc, .nilFunc, .nilFunc, .nilFunc, .nilFunc, .nilFunc, .nilFunc, .nilFunc]) := Hold.blk H3 9 rfl
  refine ef0 (xst (vs := [.nilFunc, .func (.func 53) [.pointer (some ⟨ge, 0, none⟩)].toArray [].toArray, .func (.func 54) [.pointer (some ⟨ge, 0, none⟩)].toArray [].toArray, .func (.func 55) [.pointer (some ⟨ge, 0, none⟩)].toArray [].toArray, .func (.func 56) [.pointer (some ⟨ge, 0, none⟩)].toArray [].toArray, .func (.func 57) [.pointer (some ⟨ge, 0, none⟩)].toArray [].toArray, .func (.func 58) [.pointer (some ⟨ge, 0, none⟩)].toArray [].toArray, .func (.func 59) [.pointer (some ⟨ge, 0, none⟩)].toArray [].toArray, .func (.func 60) [.pointer (some ⟨ge, 0, none⟩)].toArray [].toArray]) ti142 rfl rfl rfl b4 rfl (Nat.le_of_ble_eq_true rfl) (one_all rfl)) ?_
  rintro w5 ⟨-, b5, c5⟩
  have H4 : Hold w F w5 [rB ge 60 ((eC s b gp gw gd tv qn actv usd opn gl gk)), rPl gp (logs s b + s * b) rdf, rR kE 115 tv tab, rMW gw (wk.map kfP), rMW gd (du.map kfP), rPool 2 pl, rB gl 2 ([.int .i64 (-1)]), rB g3 29 ([.int .i64 6, .string (⟨#[]⟩ : ByteArray), .string (⟨#[]⟩ : ByteArray), .int .i64 0]), rB g4 42 ([.int .i64 0, .string ⟨#[]⟩, .slice none 0 0, .int .i64 0, .int .i64 0, .int .i64 0, .int .i64 0, .int .i64 0, .int .i64 0]), rB g5 142 ([.nilFunc, .func (.func 53) [.pointer (some ⟨ge, 0, none⟩)].toArray [].toArray, .func (.func 54) [.pointer (some ⟨ge, 0, none⟩)].toArray [].toArray, .func (.func 55) [.pointer (some ⟨ge, 0, none⟩)].toArray [].toArray, .func (.func 56) [.pointer (some ⟨ge, 0, none⟩)].toArray [].toArray, .func (.func 57) [.pointer (some ⟨ge, 0, none⟩)].toArray [].toArray, .func (.func 58) [.pointer (some ⟨ge, 0, none⟩)].toArray [].toArray, .func (.func 59) [.pointer (some ⟨ge, 0, none⟩)].toArray [].toArray, .func (.func 60) [.pointer (some ⟨ge, 0, none⟩)].toArray [].toArray])] := Hold.setB H3 9 rfl b5 c5 rfl
  clear H3
  clear b5 c5
  refine re (sq (sq ?_))
  refine gen (fun ρ => ρ 0 = .pointer (some ⟨ge, 0, none⟩) ∧ ρ 3 = .pointer (some ⟨g3, 0, none⟩) ∧ ρ 4 = .pointer (some ⟨g4, 0, none⟩) ∧ ρ 5 = .pointer (some ⟨g5, 0, none⟩) ∧ True) ⟨rfl, rfl, rfl, rfl, trivial⟩ ?_
  rintro ρ ⟨z0, z3, z4, z5, -⟩
  have b6 : B w5 g3 29 ([.int .i64 6, .string (⟨#[]⟩ : ByteArray), .string (⟨#[]⟩ : ByteArray), .int .i64 0]) := Hold.blk H4 7 rfl
  refine rg (r (fa Tryz.underlying29 rfl ti2 rfl z3) (r (ldb Tryz.underlying2 rfl rfl b6 rfl) (r (Rn.cast (v' := .bool false) (bi rfl rfl rfl) rfl) (r (Rn.cast (v' := .bool false) (mv rfl) rfl) (gy rfl rfl rfl (r (fa Tryz.underlying29 rfl ti2 rfl z3) (gy rfl rfl rfl (r (ldb Tryz.underlying2 rfl rfl b6 rfl) (gy rfl rfl rfl (r (Rn.cast (v' := .bool false) (bi rfl rfl rfl) rfl) (r (Rn.cast (v' := .bool false) (pk rfl rfl) rfl) (re (cf rfl (sk (sq (rg (r (fa Tryz.underlying29 rfl ti2 rfl z3) (r (ldb Tryz.underlying2 rfl rfl b6 rfl) (r (Rn.cast (v' := .bool false) (bi rfl rfl rfl) rfl) (r (sa rfl) (re (sq (sq ?_)))))))))))))))))))))))
  refine gen (fun ρ => ρ 0 = .pointer (some ⟨ge, 0, none⟩) ∧ ρ 3 = .pointer (some ⟨g3, 0, none⟩) ∧ ρ 4 = .pointer (some ⟨g4, 0, none⟩) ∧ ρ 5 = .pointer (some ⟨g5, 0, none⟩) ∧ ρ 6 = .bool false ∧ True) ⟨z0, z3, z4, z5, rfl, trivial⟩ ?_
  rintro ρ ⟨z0, z3, z4, z5, z6, -⟩
  refine rg (r (mv z6) (r (Rn.cast (v' := .bool true) (nt rfl) rfl) (r (Rn.cast (v' := .bool true) (mv rfl) rfl) (gy rfl rfl rfl (r (fa Tryz.underlying29 rfl ti9 rfl z3) (gy rfl rfl rfl (r (ldb Tryz.underlying9 rfl rfl b6 rfl) (gy rfl rfl rfl (r (Rn.cast (v' := .bool false) (sne rfl rfl) (congrArg Value.bool (by simp))) (r (Rn.cast (v' := .bool false) (pk rfl rfl) rfl) (r (Rn.cast (v' := .bool false) (mv rfl) rfl) (gy rfl rfl rfl (r (fa Tryz.underlying29 rfl ti2 rfl z3) (gy rfl rfl rfl (r (ldb Tryz.underlying2 rfl rfl b6 rfl) (gy rfl rfl rfl (r (Rn.cast (v' := .bool true) (bi rfl rfl rfl) rfl) (gy rfl rfl rfl (r (Rn.cast (v' := .bool true) (mv rfl) rfl) (gy rfl rfl rfl (r (fa Tryz.underlying29 rfl ti9 rfl z3) (gy rfl rfl rfl (r (ldb Tryz.underlying9 rfl rfl b6 rfl) (gy rfl rfl rfl (r (Rn.cast (v' := .bool false) (sne rfl rfl) (congrArg Value.bool (by simp))) (gy rfl rfl rfl (r (Rn.cast (v' := .bool false) (pk rfl rfl) rfl) (r (Rn.cast (v' := .bool false) (pk rfl rfl) rfl) (r (Rn.cast (v' := .bool false) (mv rfl) rfl) (gy rfl rfl rfl (r (fa Tryz.underlying29 rfl ti2 rfl z3) (gy rfl rfl rfl (r (ldb Tryz.underlying2 rfl rfl b6 rfl) (gy rfl rfl rfl (r (Rn.cast (v' := .bool true) (bi rfl rfl rfl) rfl) (gy rfl rfl rfl (r (Rn.cast (v' := .bool true) (mv rfl) rfl) (gy rfl rfl rfl (r (fa Tryz.underlying29 rfl ti2 rfl z3) (gy rfl rfl rfl (r (ldb Tryz.underlying2 rfl rfl b6 rfl) (gy rfl rfl rfl (r (Rn.cast (v' := .bool false) (bi rfl rfl rfl) rfl) (gy rfl rfl rfl (r (Rn.cast (v' := .bool false) (pk rfl rfl) rfl) (r (Rn.cast (v' := .bool false) (pk rfl rfl) rfl) (re (cf rfl (sk (sq (sq ?_)))))))))))))))))))))))))))))))))))))))))))))))))))
  refine gen (fun ρ => ρ 0 = .pointer (some ⟨ge, 0, none⟩) ∧ ρ 3 = .pointer (some ⟨g3, 0, none⟩) ∧ ρ 4 = .pointer (some ⟨g4, 0, none⟩) ∧ ρ 5 = .pointer (some ⟨g5, 0, none⟩) ∧ ρ 6 = .bool false ∧ True) ⟨z0, z3, z4, z5, z6, trivial⟩ ?_
  rintro ρ ⟨z0, z3, z4, z5, z6, -⟩
  refine rg (r (Rn.cast (v' := .bool false) (mv z6) rfl) (r (Rn.cast (v' := .bool false) (mv rfl) rfl) (gn rfl rfl rfl (gn rfl rfl rfl (gn rfl rfl rfl (gn rfl rfl rfl (r (Rn.cast (v' := .bool false) (pk rfl rfl) rfl) (re (cf rfl (sk (sq ?_)))))))))))
  refine sq ?_
  refine rde mixed ?_
  intro w7 c7
  have H5 : Hold w F w7 [rB ge 60 ((eC s b gp gw gd tv qn actv usd opn gl gk)), rPl gp (logs s b + s * b) rdf, rR kE 115 tv tab, rMW gw (wk.map kfP), rMW gd (du.map kfP), rPool 2 pl, rB gl 2 ([.int .i64 (-1)]), rB g3 29 ([.int .i64 6, .string (⟨#[]⟩ : ByteArray), .string (⟨#[]⟩ : ByteArray), .int .i64 0]), rB g4 42 ([.int .i64 0, .string ⟨#[]⟩, .slice none 0 0, .int .i64 0, .int .i64 0, .int .i64 0, .int .i64 0, .int .i64 0, .int .i64 0]), rB g5 142 ([.nilFunc, .func (.func 53) [.pointer (some ⟨ge, 0, none⟩)].toArray [].toArray, .func (.func 54) [.pointer (some ⟨ge, 0, none⟩)].toArray [].toArray, .func (.func 55) [.pointer (some ⟨ge, 0, none⟩)].toArray [].toArray, .func (.func 56) [.pointer (some ⟨ge, 0, none⟩)].toArray [].toArray, .func (.func 57) [.pointer (some ⟨ge, 0, none⟩)].toArray [].toArray, .func (.func 58) [.pointer (some ⟨ge, 0, none⟩)].toArray [].toArray, .func (.func 59) [.pointer (some ⟨ge, 0, none⟩)].toArray [].toArray, .func (.func 60) [.pointer (some ⟨ge, 0, none⟩)].toArray [].toArray])] := Hold.t H4 c7
  clear H4
  clear c7
  have H8d0 : Hold w7 [] w7 [] := Hold.start w7
  refine ⟨fun w' => Ch [] w7 w', Ch.refl _ _, ?_⟩
  have b9 : B w7 ge 60 ((eC s b gp gw gd tv qn actv usd opn gl gk)) := Hold.blk H5 0 rfl
  have b10 : B w7 g3 29 ([.int .i64 6, .string (⟨#[]⟩ : ByteArray), .string (⟨#[]⟩ : ByteArray), .int .i64 0]) := Hold.blk H5 7 rfl
  have b11 : MpW w7 gw (wk.map kfP) := Hold.mpw H5 3 rfl
  refine edt 0 rfl (by kernel_rfl) (fun w' hS => mv z0) (edt 1 rfl (by kernel_rfl) (fun w' hS => nck rfl) (edt 2 rfl (by kernel_rfl) (fun w' hS => fa Tryz.underlying60 rfl ti56 rfl rfl) (edt 3 rfl (by kernel_rfl) (fun w' hS => fa Tryz.underlying56 rfl ti54 rfl rfl) (edt 4 rfl (by kernel_rfl) (fun w' hS => fa Tryz.underlying54 rfl ti52 rfl rfl) (edt 5 rfl (by kernel_rfl) (fun w' hS => ldb Tryz.underlying52 rfl rfl (hS.b0 b9) rfl) (edt 6 rfl (by kernel_rfl) (fun w' hS => fa Tryz.underlying29 rfl ti9 rfl z3) (edt 7 rfl (by kernel_rfl) (fun w' hS => ldb Tryz.underlying9 rfl rfl (hS.b0 b10) rfl) (edt 8 rfl (by kernel_rfl) (fun w' hS => Rn.cast (v' := .tuple #[.agg #[.int .i64 0, .string (⟨#[]⟩ : ByteArray), .int .i64 0, .slice none 0 0], .bool false]) (lkps Tryz.underlying52 Tryz.underlying9 ti91 rfl rfl (MpW.s (MpW.t hS b11))) (by rw [look_kf, hfk]; rfl)) (edt 9 rfl (by kernel_rfl) (fun w' hS => mv rfl) (edt 10 rfl (by kernel_rfl) (fun w' hS => xt rfl rfl) (edt 11 rfl (by kernel_rfl) (fun w' hS => xt rfl rfl) (ed1 12 (by kernel_rfl) <| euf rfl (xal ti91) ?_))))))))))))
  rintro _ w12 ⟨g7, e12, rfl, -, b12, c12⟩
  have H6d : Hold w7 [] w12 [rB g7 91 ([.int .i64 0, .string ⟨#[]⟩, .int .i64 0, .slice none 0 0])] := Hold.newB H8d0 e12 b12 c12
  clear H8d0
  clear e12 b12 c12
  refine ⟨.inr (Hold.ch H6d), ?_⟩
  have b13 : B w12 g7 91 ([.int .i64 0, .string ⟨#[]⟩, .int .i64 0, .slice none 0 0]) := Hold.blk H6d 0 rfl
  refine ed1 13 (by kernel_rfl) <| euf0 rfl (xst (vs := [.int .i64 0, .string (⟨#[]⟩ : ByteArray), .int .i64 0, .slice none 0 0]) ti91 rfl rfl rfl b13 rfl (Nat.le_of_ble_eq_true rfl) (one_all rfl)) ?_
  rintro w14 ⟨-, b14, c14⟩
  have H7d : Hold w7 [] w14 [rB g7 91 ([.int .i64 0, .string (⟨#[]⟩ : ByteArray), .int .i64 0, .slice none 0 0])] := Hold.setB H6d 0 rfl b14 c14 rfl
  clear H6d
  clear b14 c14
  refine ⟨.inr (Hold.ch H7d), ?_⟩
  have H8 : Hold w F w14 [rB ge 60 ((eC s b gp gw gd tv qn actv usd opn gl gk)), rPl gp (logs s b + s * b) rdf, rR kE 115 tv tab, rMW gw (wk.map kfP), rMW gd (du.map kfP), rPool 2 pl, rB gl 2 ([.int .i64 (-1)]), rB g3 29 ([.int .i64 6, .string (⟨#[]⟩ : ByteArray), .string (⟨#[]⟩ : ByteArray), .int .i64 0]), rB g4 42 ([.int .i64 0, .string ⟨#[]⟩, .slice none 0 0, .int .i64 0, .int .i64 0, .int .i64 0, .int .i64 0, .int .i64 0, .int .i64 0]), rB g5 142 ([.nilFunc, .func (.func 53) [.pointer (some ⟨ge, 0, none⟩)].toArray [].toArray, .func (.func 54) [.pointer (some ⟨ge, 0, none⟩)].toArray [].toArray, .func (.func 55) [.pointer (some ⟨ge, 0, none⟩)].toArray [].toArray, .func (.func 56) [.pointer (some ⟨ge, 0, none⟩)].toArray [].toArray, .func (.func 57) [.pointer (some ⟨ge, 0, none⟩)].toArray [].toArray, .func (.func 58) [.pointer (some ⟨ge, 0, none⟩)].toArray [].toArray, .func (.func 59) [.pointer (some ⟨ge, 0, none⟩)].toArray [].toArray, .func (.func 60) [.pointer (some ⟨ge, 0, none⟩)].toArray [].toArray]), rB g7 91 ([.int .i64 0, .string (⟨#[]⟩ : ByteArray), .int .i64 0, .slice none 0 0])] := Hold.news H5 H7d
  clear H7d H5
  refine ed1 14 (by kernel_rfl) <| eur rfl (sa rfl) (.inl (by kernel_rfl)) ?_
  refine edd (by kernel_rfl) ?_
  refine sq ?_
  refine gen (fun ρ => ρ 3 = .pointer (some ⟨g3, 0, none⟩) ∧ ρ 4 = .pointer (some ⟨g4, 0, none⟩) ∧ ρ 5 = .pointer (some ⟨g5, 0, none⟩) ∧ ρ 6 = .bool false ∧ ρ 8 = .bool false ∧ True) ⟨z3, z4, z5, z6, rfl, trivial⟩ ?_
  rintro ρ ⟨z3, z4, z5, z6, z8, -⟩
  refine rg (r (Rn.cast (v' := .bool false) (mv z6) rfl) (r (Rn.cast (v' := .bool false) (mv rfl) rfl) (gn rfl rfl rfl (gn rfl rfl rfl (gn rfl rfl rfl (r (Rn.cast (v' := .bool false) (pk rfl rfl) rfl) (r (Rn.cast (v' := .bool false) (mv rfl) rfl) (gn rfl rfl rfl (gn rfl rfl rfl (r (Rn.cast (v' := .bool false) (pk rfl rfl) rfl) (re (cf rfl (sk ?_)))))))))))))
  refine sq ?_
  refine gen (fun ρ => ρ 3 = .pointer (some ⟨g3, 0, none⟩) ∧ ρ 4 = .pointer (some ⟨g4, 0, none⟩) ∧ ρ 5 = .pointer (some ⟨g5, 0, none⟩) ∧ True) ⟨z3, z4, z5, trivial⟩ ?_
  rintro ρ ⟨z3, z4, z5, -⟩
  refine rde mixed ?_
  intro w15 c15
  have H9 : Hold w F w15 [rB ge 60 ((eC s b gp gw gd tv qn actv usd opn gl gk)), rPl gp (logs s b + s * b) rdf, rR kE 115 tv tab, rMW gw (wk.map kfP), rMW gd (du.map kfP), rPool 2 pl, rB gl 2 ([.int .i64 (-1)]), rB g3 29 ([.int .i64 6, .string (⟨#[]⟩ : ByteArray), .string (⟨#[]⟩ : ByteArray), .int .i64 0]), rB g4 42 ([.int .i64 0, .string ⟨#[]⟩, .slice none 0 0, .int .i64 0, .int .i64 0, .int .i64 0, .int .i64 0, .int .i64 0, .int .i64 0]), rB g5 142 ([.nilFunc, .func (.func 53) [.pointer (some ⟨ge, 0, none⟩)].toArray [].toArray, .func (.func 54) [.pointer (some ⟨ge, 0, none⟩)].toArray [].toArray, .func (.func 55) [.pointer (some ⟨ge, 0, none⟩)].toArray [].toArray, .func (.func 56) [.pointer (some ⟨ge, 0, none⟩)].toArray [].toArray, .func (.func 57) [.pointer (some ⟨ge, 0, none⟩)].toArray [].toArray, .func (.func 58) [.pointer (some ⟨ge, 0, none⟩)].toArray [].toArray, .func (.func 59) [.pointer (some ⟨ge, 0, none⟩)].toArray [].toArray, .func (.func 60) [.pointer (some ⟨ge, 0, none⟩)].toArray [].toArray]), rB g7 91 ([.int .i64 0, .string (⟨#[]⟩ : ByteArray), .int .i64 0, .slice none 0 0])] := Hold.t H8 c15
  clear H8
  clear c15
  have H10 : Hold w F w15 [rB ge 60 ((eC s b gp gw gd tv qn actv usd opn gl gk)), rPl gp (logs s b + s * b) rdf, rR kE 115 tv tab, rMW gw (wk.map kfP), rMW gd (du.map kfP), rPool 2 pl, rB gl 2 ([.int .i64 (-1)]), rB g4 42 ([.int .i64 0, .string ⟨#[]⟩, .slice none 0 0, .int .i64 0, .int .i64 0, .int .i64 0, .int .i64 0, .int .i64 0, .int .i64 0]), rB g3 29 ([.int .i64 6, .string (⟨#[]⟩ : ByteArray), .string (⟨#[]⟩ : ByteArray), .int .i64 0]), rB g5 142 ([.nilFunc, .func (.func 53) [.pointer (some ⟨ge, 0, none⟩)].toArray [].toArray, .func (.func 54) [.pointer (some ⟨ge, 0, none⟩)].toArray [].toArray, .func (.func 55) [.pointer (some ⟨ge, 0, none⟩)].toArray [].toArray, .func (.func 56) [.pointer (some ⟨ge, 0, none⟩)].toArray [].toArray, .func (.func 57) [.pointer (some ⟨ge, 0, none⟩)].toArray [].toArray, .func (.func 58) [.pointer (some ⟨ge, 0, none⟩)].toArray [].toArray, .func (.func 59) [.pointer (some ⟨ge, 0, none⟩)].toArray [].toArray, .func (.func 60) [.pointer (some ⟨ge, 0, none⟩)].toArray [].toArray]), rB g7 91 ([.int .i64 0, .string (⟨#[]⟩ : ByteArray), .int .i64 0, .slice none 0 0])] := Hold.re H9 [0, 1, 2, 3, 4, 5, 6, 8, 7, 9, 10] (by kernel_rfl) (by rfl)
  clear H9
  obtain ⟨Fd16, hFd16, nd16, Kd16, Xd16, sd16⟩ := Hold.frontx (Γ := [rB ge 60 ((eC s b gp gw gd tv qn actv usd opn gl gk)), rPl gp (logs s b + s * b) rdf, rR kE 115 tv tab, rMW gw (wk.map kfP), rMW gd (du.map kfP), rPool 2 pl, rB gl 2 ([.int .i64 (-1)]), rB g4 42 ([.int .i64 0, .string ⟨#[]⟩, .slice none 0 0, .int .i64 0, .int .i64 0, .int .i64 0, .int .i64 0, .int .i64 0, .int .i64 0])]) (Δ := [rB g3 29 ([.int .i64 6, .string (⟨#[]⟩ : ByteArray), .string (⟨#[]⟩ : ByteArray), .int .i64 0]), rB g5 142 ([.nilFunc, .func (.func 53) [.pointer (some ⟨ge, 0, none⟩)].toArray [].toArray, .func (.func 54) [.pointer (some ⟨ge, 0, none⟩)].toArray [].toArray, .func (.func 55) [.pointer (some ⟨ge, 0, none⟩)].toArray [].toArray, .func (.func 56) [.pointer (some ⟨ge, 0, none⟩)].toArray [].toArray, .func (.func 57) [.pointer (some ⟨ge, 0, none⟩)].toArray [].toArray, .func (.func 58) [.pointer (some ⟨ge, 0, none⟩)].toArray [].toArray, .func (.func 59) [.pointer (some ⟨ge, 0, none⟩)].toArray [].toArray, .func (.func 60) [.pointer (some ⟨ge, 0, none⟩)].toArray [].toArray]), rB g7 91 ([.int .i64 0, .string (⟨#[]⟩ : ByteArray), .int .i64 0, .slice none 0 0])]) H10
  have H16d0 : Hold w15 Fd16 w15 [rB ge 60 ((eC s b gp gw gd tv qn actv usd opn gl gk)), rPl gp (logs s b + s * b) rdf, rR kE 115 tv tab, rMW gw (wk.map kfP), rMW gd (du.map kfP), rPool 2 pl, rB gl 2 ([.int .i64 (-1)]), rB g4 42 ([.int .i64 0, .string ⟨#[]⟩, .slice none 0 0, .int .i64 0, .int .i64 0, .int .i64 0, .int .i64 0, .int .i64 0, .int .i64 0])] := Hold.begin hFd16 nd16
  refine ⟨fun w' => Ch Fd16 w15 w', Ch.refl _ _, ?_⟩
  obtain ⟨_, ⟨rfl, b17⟩, x17⟩ := Xd16 0 (rB g3 29 ([.int .i64 6, .string (⟨#[]⟩ : ByteArray), .string (⟨#[]⟩ : ByteArray), .int .i64 0])) rfl
  obtain ⟨_, ⟨rfl, b18⟩, x18⟩ := Xd16 1 (rB g5 142 ([.nilFunc, .func (.func 53) [.pointer (some ⟨ge, 0, none⟩)].toArray [].toArray, .func (.func 54) [.pointer (some ⟨ge, 0, none⟩)].toArray [].toArray, .func (.func 55) [.pointer (some ⟨ge, 0, none⟩)].toArray [].toArray, .func (.func 56) [.pointer (some ⟨ge, 0, none⟩)].toArray [].toArray, .func (.func 57) [.pointer (some ⟨ge, 0, none⟩)].toArray [].toArray, .func (.func 58) [.pointer (some ⟨ge, 0, none⟩)].toArray [].toArray, .func (.func 59) [.pointer (some ⟨ge, 0, none⟩)].toArray [].toArray, .func (.func 60) [.pointer (some ⟨ge, 0, none⟩)].toArray [].toArray])) rfl
  obtain ⟨F19, hF19, n19, s19, K19⟩ := Hold.front (Γ := [rB ge 60 ((eC s b gp gw gd tv qn actv usd opn gl gk)), rPl gp (logs s b + s * b) rdf, rR kE 115 tv tab, rMW gw (wk.map kfP), rMW gd (du.map kfP), rPool 2 pl, rB gl 2 ([.int .i64 (-1)])]) (Δ := [rB g4 42 ([.int .i64 0, .string ⟨#[]⟩, .slice none 0 0, .int .i64 0, .int .i64 0, .int .i64 0, .int .i64 0, .int .i64 0, .int .i64 0])]) H16d0
  refine edt 0 rfl (by kernel_rfl) (fun w' hS => fa Tryz.underlying29 rfl ti2 rfl z3) (edt 1 rfl (by kernel_rfl) (fun w' hS => ldb Tryz.underlying2 rfl rfl (hS.b b17 (x17 _ (by simp))) rfl) (edt 2 rfl (by kernel_rfl) (fun w' hS => ixar 6 Tryz.underlying142 ti94 z5 rfl (by decide)) (edt 3 rfl (by kernel_rfl) (fun w' hS => ldb Tryz.underlying94 rfl rfl (hS.b b18 (x18 _ (by simp))) rfl) (edt 4 rfl (by kernel_rfl) (fun w' hS => lab [.int .i64 6, .string (⟨#[]⟩ : ByteArray), .string (⟨#[]⟩ : ByteArray), .int .i64 0] Tryz.underlying29 rfl ti29 z3 (hS.b b17 (x17 _ (by simp))) rfl rfl) (ed1 5 (by kernel_rfl) <| eucb rfl rfl go58 (ac rfl an) (eng_syncFiles hF19 n19 hg lt hwk hq) ?_)))))
  rintro r ww ⟨op', rd', gd', tv', rfl, hS, Hw⟩
  have H11d : Hold w15 Fd16 ww [rB ge 60 ((eC s b gp gw gd' tv' (qn + 1) actv usd op' gl gk)), rPl gp (logs s b + s * b) rd', rR kE 115 tv' (ownT tab (ownB wk)), rMW gw (wk.map kfP), rMW gd' (wk.map kfP), rPool 2 pl, rB gl 2 ([.int .i64 (-1)]), rB g4 42 ([.int .i64 0, .string ⟨#[]⟩, .slice none 0 0, .int .i64 0, .int .i64 0, .int .i64 0, .int .i64 0, .int .i64 0, .int .i64 0])] := Hold.call K19 Hw
  clear H16d0
  clear K19 hF19 n19 s19
  clear Hw
  refine ⟨.inr (Hold.ch H11d), ?_⟩
  have H12 : Hold w F ww [rB ge 60 ((eC s b gp gw gd' tv' (qn + 1) actv usd op' gl gk)), rPl gp (logs s b + s * b) rd', rR kE 115 tv' (ownT tab (ownB wk)), rMW gw (wk.map kfP), rMW gd' (wk.map kfP), rPool 2 pl, rB gl 2 ([.int .i64 (-1)]), rB g4 42 ([.int .i64 0, .string ⟨#[]⟩, .slice none 0 0, .int .i64 0, .int .i64 0, .int .i64 0, .int .i64 0, .int .i64 0, .int .i64 0]), rB g3 29 ([.int .i64 6, .string (⟨#[]⟩ : ByteArray), .string (⟨#[]⟩ : ByteArray), .int .i64 0]), rB g5 142 ([.nilFunc, .func (.func 53) [.pointer (some ⟨ge, 0, none⟩)].toArray [].toArray, .func (.func 54) [.pointer (some ⟨ge, 0, none⟩)].toArray [].toArray, .func (.func 55) [.pointer (some ⟨ge, 0, none⟩)].toArray [].toArray, .func (.func 56) [.pointer (some ⟨ge, 0, none⟩)].toArray [].toArray, .func (.func 57) [.pointer (some ⟨ge, 0, none⟩)].toArray [].toArray, .func (.func 58) [.pointer (some ⟨ge, 0, none⟩)].toArray [].toArray, .func (.func 59) [.pointer (some ⟨ge, 0, none⟩)].toArray [].toArray, .func (.func 60) [.pointer (some ⟨ge, 0, none⟩)].toArray [].toArray]), rB g7 91 ([.int .i64 0, .string (⟨#[]⟩ : ByteArray), .int .i64 0, .slice none 0 0])] := Hold.call Kd16 H11d
  clear H11d H10
  have b20 : B ww g4 42 ([.int .i64 0, .string ⟨#[]⟩, .slice none 0 0, .int .i64 0, .int .i64 0, .int .i64 0, .int .i64 0, .int .i64 0, .int .i64 0]) := Hold.blk H12 7 rfl
  refine ed1 6 (by kernel_rfl) <| euf0 rfl (xst (vs := [.int .i64 0, .string noB, .slice none 0 0, .int .i64 0, .int .i64 0, .int .i64 0, .int .i64 0, .int .i64 0, .int .i64 0]) ti42 z4 rfl rfl b20 rfl (Nat.le_of_ble_eq_true rfl) (one_all rfl)) ?_
  rintro w21 ⟨-, b21, c21⟩
  have H13 : Hold w F w21 [rB ge 60 ((eC s b gp gw gd' tv' (qn + 1) actv usd op' gl gk)), rPl gp (logs s b + s * b) rd', rR kE 115 tv' (ownT tab (ownB wk)), rMW gw (wk.map kfP), rMW gd' (wk.map kfP), rPool 2 pl, rB gl 2 ([.int .i64 (-1)]), rB g4 42 ([.int .i64 0, .string noB, .slice none 0 0, .int .i64 0, .int .i64 0, .int .i64 0, .int .i64 0, .int .i64 0, .int .i64 0]), rB g3 29 ([.int .i64 6, .string (⟨#[]⟩ : ByteArray), .string (⟨#[]⟩ : ByteArray), .int .i64 0]), rB g5 142 ([.nilFunc, .func (.func 53) [.pointer (some ⟨ge, 0, none⟩)].toArray [].toArray, .func (.func 54) [.pointer (some ⟨ge, 0, none⟩)].toArray [].toArray, .func (.func 55) [.pointer (some ⟨ge, 0, none⟩)].toArray [].toArray, .func (.func 56) [.pointer (some ⟨ge, 0, none⟩)].toArray [].toArray, .func (.func 57) [.pointer (some ⟨ge, 0, none⟩)].toArray [].toArray, .func (.func 58) [.pointer (some ⟨ge, 0, none⟩)].toArray [].toArray, .func (.func 59) [.pointer (some ⟨ge, 0, none⟩)].toArray [].toArray, .func (.func 60) [.pointer (some ⟨ge, 0, none⟩)].toArray [].toArray]), rB g7 91 ([.int .i64 0, .string (⟨#[]⟩ : ByteArray), .int .i64 0, .slice none 0 0])] := Hold.setB H12 7 rfl b21 c21 rfl
  clear H12
  clear b21 c21
  refine ⟨.inl (by kernel_rfl), ?_⟩
  refine edd (by kernel_rfl) ?_
  refine rt ?_
  have b22 : B w21 g4 42 ([.int .i64 0, .string noB, .slice none 0 0, .int .i64 0, .int .i64 0, .int .i64 0, .int .i64 0, .int .i64 0, .int .i64 0]) := Hold.blk H13 7 rfl
  have H14 : Hold w F w21 [rB ge 60 ((eC s b gp gw gd' tv' (qn + 1) actv usd op' gl gk)), rPl gp (logs s b + s * b) rd', rR kE 115 tv' (ownT tab (ownB wk)), rMW gw (wk.map kfP), rMW gd' (wk.map kfP), rPool 2 pl, rB gl 2 ([.int .i64 (-1)])] := (show Hold w F w21 ([rB ge 60 ((eC s b gp gw gd' tv' (qn + 1) actv usd op' gl gk)), rPl gp (logs s b + s * b) rd', rR kE 115 tv' (ownT tab (ownB wk)), rMW gw (wk.map kfP), rMW gd' (wk.map kfP), rPool 2 pl, rB gl 2 ([.int .i64 (-1)])] ++ [rB g4 42 ([.int .i64 0, .string noB, .slice none 0 0, .int .i64 0, .int .i64 0, .int .i64 0, .int .i64 0, .int .i64 0, .int .i64 0]), rB g3 29 ([.int .i64 6, .string (⟨#[]⟩ : ByteArray), .string (⟨#[]⟩ : ByteArray), .int .i64 0]), rB g5 142 ([.nilFunc, .func (.func 53) [.pointer (some ⟨ge, 0, none⟩)].toArray [].toArray, .func (.func 54) [.pointer (some ⟨ge, 0, none⟩)].toArray [].toArray, .func (.func 55) [.pointer (some ⟨ge, 0, none⟩)].toArray [].toArray, .func (.func 56) [.pointer (some ⟨ge, 0, none⟩)].toArray [].toArray, .func (.func 57) [.pointer (some ⟨ge, 0, none⟩)].toArray [].toArray, .func (.func 58) [.pointer (some ⟨ge, 0, none⟩)].toArray [].toArray, .func (.func 59) [.pointer (some ⟨ge, 0, none⟩)].toArray [].toArray, .func (.func 60) [.pointer (some ⟨ge, 0, none⟩)].toArray [].toArray]), rB g7 91 ([.int .i64 0, .string (⟨#[]⟩ : ByteArray), .int .i64 0, .slice none 0 0])]) from Hold.re H13 [0, 1, 2, 3, 4, 5, 6, 7, 8, 9, 10] (by kernel_rfl) (by rfl)).drop
  clear H13
  exact finc  (cs := [.int .i64 0, .string noB, .slice none 0 0, .int .i64 0, .int .i64 0, .int .i64 0, .int .i64 0, .int .i64 0, .int .i64 0]) Tryz.results34 Tryz.underlying42 rfl ti42 z4 b22 rfl  ⟨_, _, _, _, rfl, hS, H14⟩
theorem call_delete {w : World} {F : List Nat} {ge gp gw gd gl gk : Nat} {tv : Value} {s b qn actv usd opn : Int} {rdf : Int → List Int} {tab : List (Int × Bool)} {wk du : List Kf} {pl : List (Value × List Int)} {nm dt : ByteArray} (h : Hs w [rB ge 60 ((eC s b gp gw gd tv qn actv usd opn gl gk)), rPl gp (logs s b + s * b) rdf, rR kE 115 tv tab, rMW gw (wk.map kfP), rMW gd (du.map kfP), rPool 2 pl, rB gl 2 ([.int .i64 (-1)])] F) (nd : F.Nodup) {k d : Kf} (hnm : okName (nums8 nm)) (hfk : findK wk nm = some k) (hfd : findK du nm = some d) (hl : d.lid = k.lid) (hoc : k.lv.oneCell' = true) (how : ∀ k, k ∈ wk → k.lv.oneCell' = true) (hod : ∀ k, k ∈ du → k.lv.oneCell' = true) : Ret Tryz.prog 34 #[.pointer (some ⟨ge, 0, none⟩), .agg #[.int .i64 4, .string nm, .string (⟨#[]⟩ : ByteArray), .int .i64 0]] w (fun r w' => r = ansV 0 noB ∧ Hold w F w' [rB ge 60 ((eC s b gp gw gd tv qn actv usd opn gl gk)), rPl gp (logs s b + s * b) rdf, rR kE 115 tv tab, rMW gw ((delK wk nm).map kfP), rMW gd (du.map kfP), rPool 2 pl, rB gl 2 ([.int .i64 (-1)])]) := by
  refine enter Tryz.func34 rfl Tryz.ntmps34 (by rfl) (by rfl) ?_
  have H0 : Hold w F w [rB ge 60 ((eC s b gp gw gd tv qn actv usd opn gl gk)), rPl gp (logs s b + s * b) rdf, rR kE 115 tv tab, rMW gw (wk.map kfP), rMW gd (du.map kfP), rPool 2 pl, rB gl 2 ([.int .i64 (-1)])] := Hold.begin h nd
  have hns : nm.size ≤ 9223372036854775807 := by have := hnm.2.2; rw [nums8_len] at this; omega
  refine sq (rg (ef (xbx (t := 29) rfl rfl) ?_))
  rintro _ w1 ⟨g3, e1, rfl, -, b1, c1⟩
  have H1 : Hold w F w1 [rB ge 60 ((eC s b gp gw gd tv qn actv usd opn gl gk)), rPl gp (logs s b + s * b) rdf, rR kE 115 tv tab, rMW gw (wk.map kfP), rMW gd (du.map kfP), rPool 2 pl, rB gl 2 ([.int .i64 (-1)]), rB g3 29 ([.int .i64 4, .string nm, .string (⟨#[]⟩ : ByteArray), .int .i64 0])] := Hold.newB H0 e1 b1 c1
  clear H0
  clear e1 b1 c1
  refine ef (xal ti42) ?_
  rintro _ w2 ⟨g4, e2, rfl, -, b2, c2⟩
  have H2 : Hold w F w2 [rB ge 60 ((eC s b gp gw gd tv qn actv usd opn gl gk)), rPl gp (logs s b + s * b) rdf, rR kE 115 tv tab, rMW gw (wk.map kfP), rMW gd (du.map kfP), rPool 2 pl, rB gl 2 ([.int .i64 (-1)]), rB g3 29 ([.int .i64 4, .string nm, .string (⟨#[]⟩ : ByteArray), .int .i64 0]), rB g4 42 ([.int .i64 0, .string ⟨#[]⟩, .slice none 0 0, .int .i64 0, .int .i64 0, .int .i64 0, .int .i64 0, .int .i64 0, .int .i64 0])] := Hold.newB H1 e2 b2 c2
  clear H1
  clear e2 b2 c2
  refine re (sq (rg (r (mv rfl) (r (mf (vs := [.pointer (some ⟨ge, 0, none⟩)]) (cs := []) (ac rfl an) an) (r (mv rfl) (r (mf (vs := [.pointer (some ⟨ge, 0, none⟩)]) (cs := []) (ac rfl an) an) (r (mv rfl) (r (mf (vs := [.pointer (some ⟨ge, 0, none⟩)]) (cs := []) (ac rfl an) an) (r (mv rfl) (r (mf (vs := [.pointer (some ⟨ge, 0, none⟩)]) (cs := []) (ac rfl an) an) (r (mv rfl) (r (mf (vs := [.pointer (some ⟨ge, 0, none⟩)]) (cs := []) (ac rfl an) an) (r (mv rfl) (r (mf (vs := [.pointer (some ⟨ge, 0, none⟩)]) (cs := []) (ac rfl an) an) (r (mv rfl) (r (mf (vs := [.pointer (some ⟨ge, 0, none⟩)]) (cs := []) (ac rfl an) an) (r (mv rfl) (r (mf (vs := [.pointer (some ⟨ge, 0, none⟩)]) (cs := []) (ac rfl an) an) (r (bda (r := [.nilFunc, .func (.func 53) [.pointer (some ⟨ge, 0, none⟩)].toArray [].toArray, .func (.func 54) [.pointer (some ⟨ge, 0, none⟩)].toArray [].toArray, .func (.func 55) [.pointer (some ⟨ge, 0, none⟩)].toArray [].toArray, .func (.func 56) [.pointer (some ⟨ge, 0, none⟩)].toArray [].toArray, .func (.func 57) [.pointer (some ⟨ge, 0, none⟩)].toArray [].toArray, .func (.func 58) [.pointer (some ⟨ge, 0, none⟩)].toArray [].toArray, .func (.func 59) [.pointer (some ⟨ge, 0, none⟩)].toArray [].toArray, .func (.func 60) [.pointer (some ⟨ge, 0, none⟩)].toArray [].toArray]) [(0, 1), (1, 1), (2, 1), (3, 1), (4, 1), (5, 1), (6, 1), (7, 1), (8, 1)] (by decide) Tryz.underlying142 ti142 ti94 (pc (v := .func (.func 53) [.pointer (some ⟨ge, 0, none⟩)].toArray [].toArray) (c := [.func (.func 53) [.pointer (some ⟨ge, 0, none⟩)].toArray [].toArray]) rfl (cel1 rfl) (pc (v := .func (.func 54) [.pointer (some ⟨ge, 0, none⟩)].toArray [].toArray) (c := [.func (.func 54) [.pointer (some ⟨ge, 0, none⟩)].toArray [].toArray]) rfl (cel1 rfl) (pc (v := .func (.func 55) [.pointer (some ⟨ge, 0, none⟩)].toArray [].toArray) (c := [.func (.func 55) [.pointer (some ⟨ge, 0, none⟩)].toArray [].toArray]) rfl (cel1 rfl) (pc (v := .func (.func 56) [.pointer (some ⟨ge, 0, none⟩)].toArray [].toArray) (c := [.func (.func 56) [.pointer (some ⟨ge, 0, none⟩)].toArray [].toArray]) rfl (cel1 rfl) (pc (v := .func (.func 57) [.pointer (some ⟨ge, 0, none⟩)].toArray [].toArray) (c := [.func (.func 57) [.pointer (some ⟨ge, 0, none⟩)].toArray [].toArray]) rfl (cel1 rfl) (pc (v := .func (.func 58) [.pointer (some ⟨ge, 0, none⟩)].toArray [].toArray) (c := [.func (.func 58) [.pointer (some ⟨ge, 0, none⟩)].toArray [].toArray]) rfl (cel1 rfl) (pc (v := .func (.func 59) [.pointer (some ⟨ge, 0, none⟩)].toArray [].toArray) (c := [.func (.func 59) [.pointer (some ⟨ge, 0, none⟩)].toArray [].toArray]) rfl (cel1 rfl) (pc (v := .func (.func 60) [.pointer (some ⟨ge, 0, none⟩)].toArray [].toArray) (c := [.func (.func 60) [.pointer (some ⟨ge, 0, none⟩)].toArray [].toArray]) rfl (cel1 rfl) pn)))))))) (by kernel_rfl)) (ef (xal ti142) ?_))))))))))))))))))))
  rintro _ w3 ⟨g5, e3, rfl, -, b3, c3⟩
  have H3 : Hold w F w3 [rB ge 60 ((eC s b gp gw gd tv qn actv usd opn gl gk)), rPl gp (logs s b + s * b) rdf, rR kE 115 tv tab, rMW gw (wk.map kfP), rMW gd (du.map kfP), rPool 2 pl, rB gl 2 ([.int .i64 (-1)]), rB g3 29 ([.int .i64 4, .string nm, .string (⟨#[]⟩ : ByteArray), .int .i64 0]), rB g4 42 ([.int .i64 0, .string ⟨#[]⟩, .slice none 0 0, .int .i64 0, .int .i64 0, .int .i64 0, .int .i64 0, .int .i64 0, .int .i64 0]), rB g5 142 ([.nilFunc, .nilFunc, .nilFunc, .nilFunc, .nilFunc, .nilFunc, .nilFunc, .nilFunc, .nilFunc])] := Hold.newB H2 e3 b3 c3
  clear H2
  clear e3 b3 c3
  have b4 : B w3 g5 142 ([.nilFunc, .nilFunc, .nilFunc, .nilFunc, .nilFunc, .nilFunc, .nilFunc, .nilFunc, .nilFunc]) := Hold.blk H3 9 rfl
  refine ef0 (xst (vs := [.nilFunc, .func (.func 53) [.pointer (some ⟨ge, 0, none⟩)].toArray [].toArray, .func (.func 54) [.pointer (some ⟨ge, 0, none⟩)].toArray [].toArray, .func (.func 55) [.pointer (some ⟨ge, 0, none⟩)].toArray [].toArray, .func (.func 56) [.pointer (some ⟨ge, 0, none⟩)].toArray [].toArray, .func (.func 57) [.pointer (some ⟨ge, 0, none⟩)].toArray [].toArray, .func (.func 58) [.pointer (some ⟨ge, 0, none⟩)].toArray [].toArray, .func (.func 59) [.pointer (some ⟨ge, 0, none⟩)].toArray [].toArray, .func (.func 60) [.pointer (some ⟨ge, 0, none⟩)].toArray [].toArray]) ti142 rfl rfl rfl b4 rfl (Nat.le_of_ble_eq_true rfl) (one_all rfl)) ?_
  rintro w5 ⟨-, b5, c5⟩
  have H4 : Hold w F w5 [rB ge 60 ((eC s b gp gw gd tv qn actv usd opn gl gk)), rPl gp (logs s b + s * b) rdf, rR kE 115 tv tab, rMW gw (wk.map kfP), rMW gd (du.map kfP), rPool 2 pl, rB gl 2 ([.int .i64 (-1)]), rB g3 29 ([.int .i64 4, .string nm, .string (⟨#[]⟩ : ByteArray), .int .i64 0]), rB g4 42 ([.int .i64 0, .string ⟨#[]⟩, .slice none 0 0, .int .i64 0, .int .i64 0, .int .i64 0, .int .i64 0, .int .i64 0, .int .i64 0]), rB g5 142 ([.nilFunc, .func (.func 53) [.pointer (some ⟨ge, 0, none⟩)].toArray [].toArray, .func (.func 54) [.pointer (some ⟨ge, 0, none⟩)].toArray [].toArray, .func (.func 55) [.pointer (some ⟨ge, 0, none⟩)].toArray [].toArray, .func (.func 56) [.pointer (some ⟨ge, 0, none⟩)].toArray [].toArray, .func (.func 57) [.pointer (some ⟨ge, 0, none⟩)].toArray [].toArray, .func (.func 58) [.pointer (some ⟨ge, 0, none⟩)].toArray [].toArray, .func (.func 59) [.pointer (some ⟨ge, 0, none⟩)].toArray [].toArray, .func (.func 60) [.pointer (some ⟨ge, 0, none⟩)].toArray [].toArray])] := Hold.setB H3 9 rfl b5 c5 rfl
  clear H3
  clear b5 c5
  refine re (sq (sq ?_))
  refine gen (fun ρ => ρ 0 = .pointer (some ⟨ge, 0, none⟩) ∧ ρ 3 = .pointer (some ⟨g3, 0, none⟩) ∧ ρ 4 = .pointer (some ⟨g4, 0, none⟩) ∧ ρ 5 = .pointer (some ⟨g5, 0, none⟩) ∧ True) ⟨rfl, rfl, rfl, rfl, trivial⟩ ?_
  rintro ρ ⟨z0, z3, z4, z5, -⟩
  have b6 : B w5 g3 29 ([.int .i64 4, .string nm, .string (⟨#[]⟩ : ByteArray), .int .i64 0]) := Hold.blk H4 7 rfl
  refine rg (r (fa Tryz.underlying29 rfl ti2 rfl z3) (r (ldb Tryz.underlying2 rfl rfl b6 rfl) (r (Rn.cast (v' := .bool false) (bi rfl rfl rfl) rfl) (r (Rn.cast (v' := .bool false) (mv rfl) rfl) (gy rfl rfl rfl (r (fa Tryz.underlying29 rfl ti2 rfl z3) (gy rfl rfl rfl (r (ldb Tryz.underlying2 rfl rfl b6 rfl) (gy rfl rfl rfl (r (Rn.cast (v' := .bool false) (bi rfl rfl rfl) rfl) (r (Rn.cast (v' := .bool false) (pk rfl rfl) rfl) (re (cf rfl (sk (sq (rg (r (fa Tryz.underlying29 rfl ti2 rfl z3) (r (ldb Tryz.underlying2 rfl rfl b6 rfl) (r (Rn.cast (v' := .bool true) (bi rfl rfl rfl) rfl) (r (sa rfl) (re (sq (sq ?_)))))))))))))))))))))))
  refine gen (fun ρ => ρ 0 = .pointer (some ⟨ge, 0, none⟩) ∧ ρ 3 = .pointer (some ⟨g3, 0, none⟩) ∧ ρ 4 = .pointer (some ⟨g4, 0, none⟩) ∧ ρ 5 = .pointer (some ⟨g5, 0, none⟩) ∧ ρ 6 = .bool true ∧ True) ⟨z0, z3, z4, z5, rfl, trivial⟩ ?_
  rintro ρ ⟨z0, z3, z4, z5, z6, -⟩
  refine rg (r (mv z6) (r (Rn.cast (v' := .bool false) (nt rfl) rfl) (r (Rn.cast (v' := .bool false) (mv rfl) rfl) (gn rfl rfl rfl (gn rfl rfl rfl (gn rfl rfl rfl (r (Rn.cast (v' := .bool false) (pk rfl rfl) rfl) (r (Rn.cast (v' := .bool false) (mv rfl) rfl) (gy rfl rfl rfl (r (fa Tryz.underlying29 rfl ti2 rfl z3) (gy rfl rfl rfl (r (ldb Tryz.underlying2 rfl rfl b6 rfl) (gy rfl rfl rfl (r (Rn.cast (v' := .bool true) (bi rfl rfl rfl) rfl) (gy rfl rfl rfl (r (Rn.cast (v' := .bool true) (mv rfl) rfl) (gy rfl rfl rfl (r (fa Tryz.underlying29 rfl ti9 rfl z3) (gy rfl rfl rfl (r (ldb Tryz.underlying9 rfl rfl b6 rfl) (gy rfl rfl rfl (r (Rn.cast (v' := .bool false) (sne rfl rfl) (congrArg Value.bool (by simp))) (gy rfl rfl rfl (r (Rn.cast (v' := .bool false) (pk rfl rfl) rfl) (r (Rn.cast (v' := .bool false) (pk rfl rfl) rfl) (r (Rn.cast (v' := .bool false) (mv rfl) rfl) (gy rfl rfl rfl (r (fa Tryz.underlying29 rfl ti2 rfl z3) (gy rfl rfl rfl (r (ldb Tryz.underlying2 rfl rfl b6 rfl) (gy rfl rfl rfl (r (Rn.cast (v' := .bool true) (bi rfl rfl rfl) rfl) (gy rfl rfl rfl (r (Rn.cast (v' := .bool true) (mv rfl) rfl) (gy rfl rfl rfl (r (fa Tryz.underlying29 rfl ti2 rfl z3) (gy rfl rfl rfl (r (ldb Tryz.underlying2 rfl rfl b6 rfl) (gy rfl rfl rfl (r (Rn.cast (v' := .bool false) (bi rfl rfl rfl) rfl) (gy rfl rfl rfl (r (Rn.cast (v' := .bool false) (pk rfl rfl) rfl) (r (Rn.cast (v' := .bool false) (pk rfl rfl) rfl) (re (cf rfl (sk (sq (sq ?_))))))))))))))))))))))))))))))))))))))))))))))))
  refine gen (fun ρ => ρ 0 = .pointer (some ⟨ge, 0, none⟩) ∧ ρ 3 = .pointer (some ⟨g3, 0, none⟩) ∧ ρ 4 = .pointer (some ⟨g4, 0, none⟩) ∧ ρ 5 = .pointer (some ⟨g5, 0, none⟩) ∧ ρ 6 = .bool true ∧ True) ⟨z0, z3, z4, z5, z6, trivial⟩ ?_
  rintro ρ ⟨z0, z3, z4, z5, z6, -⟩
  refine rg (r (Rn.cast (v' := .bool true) (mv z6) rfl) (r (Rn.cast (v' := .bool true) (mv rfl) rfl) (gy rfl rfl rfl (r (fa Tryz.underlying29 rfl ti9 rfl z3) (gy rfl rfl rfl (r (ldb Tryz.underlying9 rfl rfl b6 rfl) (gy rfl rfl rfl (cl go61 (impl_ValidName (by omega)) (ac rfl an) ?_))))))))
  rintro r wv ⟨er, cv9⟩
  rw [decide_eq_true hnm] at er
  subst er
  have H5 : Hold w F wv [rB ge 60 ((eC s b gp gw gd tv qn actv usd opn gl gk)), rPl gp (logs s b + s * b) rdf, rR kE 115 tv tab, rMW gw (wk.map kfP), rMW gd (du.map kfP), rPool 2 pl, rB gl 2 ([.int .i64 (-1)]), rB g3 29 ([.int .i64 4, .string nm, .string (⟨#[]⟩ : ByteArray), .int .i64 0]), rB g4 42 ([.int .i64 0, .string ⟨#[]⟩, .slice none 0 0, .int .i64 0, .int .i64 0, .int .i64 0, .int .i64 0, .int .i64 0, .int .i64 0]), rB g5 142 ([.nilFunc, .func (.func 53) [.pointer (some ⟨ge, 0, none⟩)].toArray [].toArray, .func (.func 54) [.pointer (some ⟨ge, 0, none⟩)].toArray [].toArray, .func (.func 55) [.pointer (some ⟨ge, 0, none⟩)].toArray [].toArray, .func (.func 56) [.pointer (some ⟨ge, 0, none⟩)].toArray [].toArray, .func (.func 57) [.pointer (some ⟨ge, 0, none⟩)].toArray [].toArray, .func (.func 58) [.pointer (some ⟨ge, 0, none⟩)].toArray [].toArray, .func (.func 59) [.pointer (some ⟨ge, 0, none⟩)].toArray [].toArray, .func (.func 60) [.pointer (some ⟨ge, 0, none⟩)].toArray [].toArray])] := Hold.t H4 cv9
  clear H4
  clear cv9
  refine gy rfl rfl rfl (r (Rn.cast (v' := .bool false) (nt rfl) rfl) (r (Rn.cast (v' := .bool false) (pk rfl rfl) rfl) (re (cf rfl (sk (sq ?_))))))
  refine sq ?_
  refine rde mixed ?_
  intro w8 c8
  have H6 : Hold w F w8 [rB ge 60 ((eC s b gp gw gd tv qn actv usd opn gl gk)), rPl gp (logs s b + s * b) rdf, rR kE 115 tv tab, rMW gw (wk.map kfP), rMW gd (du.map kfP), rPool 2 pl, rB gl 2 ([.int .i64 (-1)]), rB g3 29 ([.int .i64 4, .string nm, .string (⟨#[]⟩ : ByteArray), .int .i64 0]), rB g4 42 ([.int .i64 0, .string ⟨#[]⟩, .slice none 0 0, .int .i64 0, .int .i64 0, .int .i64 0, .int .i64 0, .int .i64 0, .int .i64 0]), rB g5 142 ([.nilFunc, .func (.func 53) [.pointer (some ⟨ge, 0, none⟩)].toArray [].toArray, .func (.func 54) [.pointer (some ⟨ge, 0, none⟩)].toArray [].toArray, .func (.func 55) [.pointer (some ⟨ge, 0, none⟩)].toArray [].toArray, .func (.func 56) [.pointer (some ⟨ge, 0, none⟩)].toArray [].toArray, .func (.func 57) [.pointer (some ⟨ge, 0, none⟩)].toArray [].toArray, .func (.func 58) [.pointer (some ⟨ge, 0, none⟩)].toArray [].toArray, .func (.func 59) [.pointer (some ⟨ge, 0, none⟩)].toArray [].toArray, .func (.func 60) [.pointer (some ⟨ge, 0, none⟩)].toArray [].toArray])] := Hold.t H5 c8
  clear H5
  clear c8
  have H9d0 : Hold w8 [] w8 [] := Hold.start w8
  refine ⟨fun w' => Ch [] w8 w', Ch.refl _ _, ?_⟩
  have b10 : B w8 ge 60 ((eC s b gp gw gd tv qn actv usd opn gl gk)) := Hold.blk H6 0 rfl
  have b11 : B w8 g3 29 ([.int .i64 4, .string nm, .string (⟨#[]⟩ : ByteArray), .int .i64 0]) := Hold.blk H6 7 rfl
  have b12 : MpW w8 gw (wk.map kfP) := Hold.mpw H6 3 rfl
  refine edt 0 rfl (by kernel_rfl) (fun w' hS => mv z0) (edt 1 rfl (by kernel_rfl) (fun w' hS => nck rfl) (edt 2 rfl (by kernel_rfl) (fun w' hS => fa Tryz.underlying60 rfl ti56 rfl rfl) (edt 3 rfl (by kernel_rfl) (fun w' hS => fa Tryz.underlying56 rfl ti54 rfl rfl) (edt 4 rfl (by kernel_rfl) (fun w' hS => fa Tryz.underlying54 rfl ti52 rfl rfl) (edt 5 rfl (by kernel_rfl) (fun w' hS => ldb Tryz.underlying52 rfl rfl (hS.b0 b10) rfl) (edt 6 rfl (by kernel_rfl) (fun w' hS => fa Tryz.underlying29 rfl ti9 rfl z3) (edt 7 rfl (by kernel_rfl) (fun w' hS => ldb Tryz.underlying9 rfl rfl (hS.b0 b11) rfl) (edt 8 rfl (by kernel_rfl) (fun w' hS => Rn.cast (v' := .tuple #[.agg #[.int .i64 k.lid, .string k.nm, .int .i64 k.sz, k.lv], .bool true]) (lkps Tryz.underlying52 Tryz.underlying9 ti91 rfl rfl (MpW.s (MpW.t hS b12))) (by rw [look_kf, hfk]; rfl)) (edt 9 rfl (by kernel_rfl) (fun w' hS => mv rfl) (edt 10 rfl (by kernel_rfl) (fun w' hS => xt rfl rfl) (edt 11 rfl (by kernel_rfl) (fun w' hS => xt rfl rfl) (ed1 12 (by kernel_rfl) <| euf rfl (xal ti91) ?_))))))))))))
  rintro _ w13 ⟨g7, e13, rfl, -, b13, c13⟩
  have H7d : Hold w8 [] w13 [rB g7 91 ([.int .i64 0, .string ⟨#[]⟩, .int .i64 0, .slice none 0 0])] := Hold.newB H9d0 e13 b13 c13
  clear H9d0
  clear e13 b13 c13
  refine ⟨.inr (Hold.ch H7d), ?_⟩
  have b14 : B w13 g7 91 ([.int .i64 0, .string ⟨#[]⟩, .int .i64 0, .slice none 0 0]) := Hold.blk H7d 0 rfl
  refine ed1 13 (by kernel_rfl) <| euf0 rfl (xst (vs := [.int .i64 k.lid, .string k.nm, .int .i64 k.sz, k.lv]) ti91 rfl rfl rfl b14 rfl (Nat.le_of_ble_eq_true rfl) (oc rfl (oc rfl (oc rfl (oc hoc on))))) ?_
  rintro w15 ⟨-, b15, c15⟩
  have H8d : Hold w8 [] w15 [rB g7 91 ([.int .i64 k.lid, .string k.nm, .int .i64 k.sz, k.lv])] := Hold.setB H7d 0 rfl b15 c15 rfl
  clear H7d
  clear b15 c15
  refine ⟨.inr (Hold.ch H8d), ?_⟩
  have H9 : Hold w F w15 [rB ge 60 ((eC s b gp gw gd tv qn actv usd opn gl gk)), rPl gp (logs s b + s * b) rdf, rR kE 115 tv tab, rMW gw (wk.map kfP), rMW gd (du.map kfP), rPool 2 pl, rB gl 2 ([.int .i64 (-1)]), rB g3 29 ([.int .i64 4, .string nm, .string (⟨#[]⟩ : ByteArray), .int .i64 0]), rB g4 42 ([.int .i64 0, .string ⟨#[]⟩, .slice none 0 0, .int .i64 0, .int .i64 0, .int .i64 0, .int .i64 0, .int .i64 0, .int .i64 0]), rB g5 142 ([.nilFunc, .func (.func 53) [.pointer (some ⟨ge, 0, none⟩)].toArray [].toArray, .func (.func 54) [.pointer (some ⟨ge, 0, none⟩)].toArray [].toArray, .func (.func 55) [.pointer (some ⟨ge, 0, none⟩)].toArray [].toArray, .func (.func 56) [.pointer (some ⟨ge, 0, none⟩)].toArray [].toArray, .func (.func 57) [.pointer (some ⟨ge, 0, none⟩)].toArray [].toArray, .func (.func 58) [.pointer (some ⟨ge, 0, none⟩)].toArray [].toArray, .func (.func 59) [.pointer (some ⟨ge, 0, none⟩)].toArray [].toArray, .func (.func 60) [.pointer (some ⟨ge, 0, none⟩)].toArray [].toArray]), rB g7 91 ([.int .i64 k.lid, .string k.nm, .int .i64 k.sz, k.lv])] := Hold.news H6 H8d
  clear H8d H6
  refine ed1 14 (by kernel_rfl) <| eur rfl (sa rfl) (.inl (by kernel_rfl)) ?_
  refine edd (by kernel_rfl) ?_
  refine sq ?_
  refine gen (fun ρ => ρ 3 = .pointer (some ⟨g3, 0, none⟩) ∧ ρ 4 = .pointer (some ⟨g4, 0, none⟩) ∧ ρ 5 = .pointer (some ⟨g5, 0, none⟩) ∧ ρ 6 = .bool true ∧ ρ 8 = .bool true ∧ True) ⟨z3, z4, z5, z6, rfl, trivial⟩ ?_
  rintro ρ ⟨z3, z4, z5, z6, z8, -⟩
  have b16 : B w15 g3 29 ([.int .i64 4, .string nm, .string (⟨#[]⟩ : ByteArray), .int .i64 0]) := Hold.blk H9 7 rfl
  refine rg (r (Rn.cast (v' := .bool true) (mv z6) rfl) (r (Rn.cast (v' := .bool true) (mv rfl) rfl) (gy rfl rfl rfl (r (fa Tryz.underlying29 rfl ti2 rfl z3) (gy rfl rfl rfl (r (ldb Tryz.underlying2 rfl rfl b16 rfl) (gy rfl rfl rfl (r (Rn.cast (v' := .bool true) (bi rfl rfl rfl) rfl) (r (Rn.cast (v' := .bool true) (pk rfl rfl) rfl) (r (Rn.cast (v' := .bool true) (mv rfl) rfl) (gy rfl rfl rfl (r (mv z8) (gy rfl rfl rfl (r (Rn.cast (v' := .bool false) (nt rfl) rfl) (r (Rn.cast (v' := .bool false) (pk rfl rfl) rfl) (re (cf rfl (sk ?_))))))))))))))))))
  refine sq ?_
  refine gen (fun ρ => ρ 3 = .pointer (some ⟨g3, 0, none⟩) ∧ ρ 4 = .pointer (some ⟨g4, 0, none⟩) ∧ ρ 5 = .pointer (some ⟨g5, 0, none⟩) ∧ True) ⟨z3, z4, z5, trivial⟩ ?_
  rintro ρ ⟨z3, z4, z5, -⟩
  refine rde mixed ?_
  intro w17 c17
  have H10 : Hold w F w17 [rB ge 60 ((eC s b gp gw gd tv qn actv usd opn gl gk)), rPl gp (logs s b + s * b) rdf, rR kE 115 tv tab, rMW gw (wk.map kfP), rMW gd (du.map kfP), rPool 2 pl, rB gl 2 ([.int .i64 (-1)]), rB g3 29 ([.int .i64 4, .string nm, .string (⟨#[]⟩ : ByteArray), .int .i64 0]), rB g4 42 ([.int .i64 0, .string ⟨#[]⟩, .slice none 0 0, .int .i64 0, .int .i64 0, .int .i64 0, .int .i64 0, .int .i64 0, .int .i64 0]), rB g5 142 ([.nilFunc, .func (.func 53) [.pointer (some ⟨ge, 0, none⟩)].toArray [].toArray, .func (.func 54) [.pointer (some ⟨ge, 0, none⟩)].toArray [].toArray, .func (.func 55) [.pointer (some ⟨ge, 0, none⟩)].toArray [].toArray, .func (.func 56) [.pointer (some ⟨ge, 0, none⟩)].toArray [].toArray, .func (.func 57) [.pointer (some ⟨ge, 0, none⟩)].toArray [].toArray, .func (.func 58) [.pointer (some ⟨ge, 0, none⟩)].toArray [].toArray, .func (.func 59) [.pointer (some ⟨ge, 0, none⟩)].toArray [].toArray, .func (.func 60) [.pointer (some ⟨ge, 0, none⟩)].toArray [].toArray]), rB g7 91 ([.int .i64 k.lid, .string k.nm, .int .i64 k.sz, k.lv])] := Hold.t H9 c17
  clear H9
  clear c17
  have H11 : Hold w F w17 [rB ge 60 ((eC s b gp gw gd tv qn actv usd opn gl gk)), rMW gw (wk.map kfP), rMW gd (du.map kfP), rB g4 42 ([.int .i64 0, .string ⟨#[]⟩, .slice none 0 0, .int .i64 0, .int .i64 0, .int .i64 0, .int .i64 0, .int .i64 0, .int .i64 0]), rPl gp (logs s b + s * b) rdf, rR kE 115 tv tab, rPool 2 pl, rB gl 2 ([.int .i64 (-1)]), rB g3 29 ([.int .i64 4, .string nm, .string (⟨#[]⟩ : ByteArray), .int .i64 0]), rB g5 142 ([.nilFunc, .func (.func 53) [.pointer (some ⟨ge, 0, none⟩)].toArray [].toArray, .func (.func 54) [.pointer (some ⟨ge, 0, none⟩)].toArray [].toArray, .func (.func 55) [.pointer (some ⟨ge, 0, none⟩)].toArray [].toArray, .func (.func 56) [.pointer (some ⟨ge, 0, none⟩)].toArray [].toArray, .func (.func 57) [.pointer (some ⟨ge, 0, none⟩)].toArray [].toArray, .func (.func 58) [.pointer (some ⟨ge, 0, none⟩)].toArray [].toArray, .func (.func 59) [.pointer (some ⟨ge, 0, none⟩)].toArray [].toArray, .func (.func 60) [.pointer (some ⟨ge, 0, none⟩)].toArray [].toArray]), rB g7 91 ([.int .i64 k.lid, .string k.nm, .int .i64 k.sz, k.lv])] := Hold.re H10 [0, 3, 4, 8, 1, 2, 5, 6, 7, 9, 10] (by kernel_rfl) (by rfl)
  clear H10
  obtain ⟨Fd18, hFd18, nd18, Kd18, Xd18, sd18⟩ := Hold.frontx (Γ := [rB ge 60 ((eC s b gp gw gd tv qn actv usd opn gl gk)), rMW gw (wk.map kfP), rMW gd (du.map kfP), rB g4 42 ([.int .i64 0, .string ⟨#[]⟩, .slice none 0 0, .int .i64 0, .int .i64 0, .int .i64 0, .int .i64 0, .int .i64 0, .int .i64 0])]) (Δ := [rPl gp (logs s b + s * b) rdf, rR kE 115 tv tab, rPool 2 pl, rB gl 2 ([.int .i64 (-1)]), rB g3 29 ([.int .i64 4, .string nm, .string (⟨#[]⟩ : ByteArray), .int .i64 0]), rB g5 142 ([.nilFunc, .func (.func 53) [.pointer (some ⟨ge, 0, none⟩)].toArray [].toArray, .func (.func 54) [.pointer (some ⟨ge, 0, none⟩)].toArray [].toArray, .func (.func 55) [.pointer (some ⟨ge, 0, none⟩)].toArray [].toArray, .func (.func 56) [.pointer (some ⟨ge, 0, none⟩)].toArray [].toArray, .func (.func 57) [.pointer (some ⟨ge, 0, none⟩)].toArray [].toArray, .func (.func 58) [.pointer (some ⟨ge, 0, none⟩)].toArray [].toArray, .func (.func 59) [.pointer (some ⟨ge, 0, none⟩)].toArray [].toArray, .func (.func 60) [.pointer (some ⟨ge, 0, none⟩)].toArray [].toArray]), rB g7 91 ([.int .i64 k.lid, .string k.nm, .int .i64 k.sz, k.lv])]) H11
  have H18d0 : Hold w17 Fd18 w17 [rB ge 60 ((eC s b gp gw gd tv qn actv usd opn gl gk)), rMW gw (wk.map kfP), rMW gd (du.map kfP), rB g4 42 ([.int .i64 0, .string ⟨#[]⟩, .slice none 0 0, .int .i64 0, .int .i64 0, .int .i64 0, .int .i64 0, .int .i64 0, .int .i64 0])] := Hold.begin hFd18 nd18
  refine ⟨fun w' => Ch Fd18 w17 w', Ch.refl _ _, ?_⟩
  obtain ⟨_, ⟨rfl, b19⟩, x19⟩ := Xd18 4 (rB g3 29 ([.int .i64 4, .string nm, .string (⟨#[]⟩ : ByteArray), .int .i64 0])) rfl
  obtain ⟨_, ⟨rfl, b20⟩, x20⟩ := Xd18 5 (rB g5 142 ([.nilFunc, .func (.func 53) [.pointer (some ⟨ge, 0, none⟩)].toArray [].toArray, .func (.func 54) [.pointer (some ⟨ge, 0, none⟩)].toArray [].toArray, .func (.func 55) [.pointer (some ⟨ge, 0, none⟩)].toArray [].toArray, .func (.func 56) [.pointer (some ⟨ge, 0, none⟩)].toArray [].toArray, .func (.func 57) [.pointer (some ⟨ge, 0, none⟩)].toArray [].toArray, .func (.func 58) [.pointer (some ⟨ge, 0, none⟩)].toArray [].toArray, .func (.func 59) [.pointer (some ⟨ge, 0, none⟩)].toArray [].toArray, .func (.func 60) [.pointer (some ⟨ge, 0, none⟩)].toArray [].toArray])) rfl
  obtain ⟨F21, hF21, n21, s21, K21⟩ := Hold.front (Γ := [rB ge 60 ((eC s b gp gw gd tv qn actv usd opn gl gk)), rMW gw (wk.map kfP), rMW gd (du.map kfP)]) (Δ := [rB g4 42 ([.int .i64 0, .string ⟨#[]⟩, .slice none 0 0, .int .i64 0, .int .i64 0, .int .i64 0, .int .i64 0, .int .i64 0, .int .i64 0])]) H18d0
  refine edt 0 rfl (by kernel_rfl) (fun w' hS => fa Tryz.underlying29 rfl ti2 rfl z3) (edt 1 rfl (by kernel_rfl) (fun w' hS => ldb Tryz.underlying2 rfl rfl (hS.b b19 (x19 _ (by simp))) rfl) (edt 2 rfl (by kernel_rfl) (fun w' hS => ixar 4 Tryz.underlying142 ti94 z5 rfl (by decide)) (edt 3 rfl (by kernel_rfl) (fun w' hS => ldb Tryz.underlying94 rfl rfl (hS.b b20 (x20 _ (by simp))) rfl) (edt 4 rfl (by kernel_rfl) (fun w' hS => lab [.int .i64 4, .string nm, .string (⟨#[]⟩ : ByteArray), .int .i64 0] Tryz.underlying29 rfl ti29 z3 (hS.b b19 (x19 _ (by simp))) rfl rfl) (ed1 5 (by kernel_rfl) <| eucb rfl rfl go56 (ac rfl an) (eng_remove hF21 n21 (.inr ⟨k, d, hfk, hfd, hl⟩) how hod) ?_)))))
  rintro r ww ⟨rfl, Hw⟩
  have H12d : Hold w17 Fd18 ww [rB ge 60 ((eC s b gp gw gd tv qn actv usd opn gl gk)), rMW gw ((delK wk nm).map kfP), rMW gd (du.map kfP), rB g4 42 ([.int .i64 0, .string ⟨#[]⟩, .slice none 0 0, .int .i64 0, .int .i64 0, .int .i64 0, .int .i64 0, .int .i64 0, .int .i64 0])] := Hold.call K21 Hw
  clear H18d0
  clear K21 hF21 n21 s21
  clear Hw
  refine ⟨.inr (Hold.ch H12d), ?_⟩
  have H13 : Hold w F ww [rB ge 60 ((eC s b gp gw gd tv qn actv usd opn gl gk)), rMW gw ((delK wk nm).map kfP), rMW gd (du.map kfP), rB g4 42 ([.int .i64 0, .string ⟨#[]⟩, .slice none 0 0, .int .i64 0, .int .i64 0, .int .i64 0, .int .i64 0, .int .i64 0, .int .i64 0]), rPl gp (logs s b + s * b) rdf, rR kE 115 tv tab, rPool 2 pl, rB gl 2 ([.int .i64 (-1)]), rB g3 29 ([.int .i64 4, .string nm, .string (⟨#[]⟩ : ByteArray), .int .i64 0]), rB g5 142 ([.nilFunc, .func (.func 53) [.pointer (some ⟨ge, 0, none⟩)].toArray [].toArray, .func (.func 54) [.pointer (some ⟨ge, 0, none⟩)].toArray [].toArray, .func (.func 55) [.pointer (some ⟨ge, 0, none⟩)].toArray [].toArray, .func (.func 56) [.pointer (some ⟨ge, 0, none⟩)].toArray [].toArray, .func (.func 57) [.pointer (some ⟨ge, 0, none⟩)].toArray [].toArray, .func (.func 58) [.pointer (some ⟨ge, 0, none⟩)].toArray [].toArray, .func (.func 59) [.pointer (some ⟨ge, 0, none⟩)].toArray [].toArray, .func (.func 60) [.pointer (some ⟨ge, 0, none⟩)].toArray [].toArray]), rB g7 91 ([.int .i64 k.lid, .string k.nm, .int .i64 k.sz, k.lv])] := Hold.call Kd18 H12d
  clear H12d H11
  have b22 : B ww g4 42 ([.int .i64 0, .string ⟨#[]⟩, .slice none 0 0, .int .i64 0, .int .i64 0, .int .i64 0, .int .i64 0, .int .i64 0, .int .i64 0]) := Hold.blk H13 3 rfl
  refine ed1 6 (by kernel_rfl) <| euf0 rfl (xst (vs := [.int .i64 0, .string noB, .slice none 0 0, .int .i64 0, .int .i64 0, .int .i64 0, .int .i64 0, .int .i64 0, .int .i64 0]) ti42 z4 rfl rfl b22 rfl (Nat.le_of_ble_eq_true rfl) (one_all rfl)) ?_
  rintro w23 ⟨-, b23, c23⟩
  have H14 : Hold w F w23 [rB ge 60 ((eC s b gp gw gd tv qn actv usd opn gl gk)), rMW gw ((delK wk nm).map kfP), rMW gd (du.map kfP), rB g4 42 ([.int .i64 0, .string noB, .slice none 0 0, .int .i64 0, .int .i64 0, .int .i64 0, .int .i64 0, .int .i64 0, .int .i64 0]), rPl gp (logs s b + s * b) rdf, rR kE 115 tv tab, rPool 2 pl, rB gl 2 ([.int .i64 (-1)]), rB g3 29 ([.int .i64 4, .string nm, .string (⟨#[]⟩ : ByteArray), .int .i64 0]), rB g5 142 ([.nilFunc, .func (.func 53) [.pointer (some ⟨ge, 0, none⟩)].toArray [].toArray, .func (.func 54) [.pointer (some ⟨ge, 0, none⟩)].toArray [].toArray, .func (.func 55) [.pointer (some ⟨ge, 0, none⟩)].toArray [].toArray, .func (.func 56) [.pointer (some ⟨ge, 0, none⟩)].toArray [].toArray, .func (.func 57) [.pointer (some ⟨ge, 0, none⟩)].toArray [].toArray, .func (.func 58) [.pointer (some ⟨ge, 0, none⟩)].toArray [].toArray, .func (.func 59) [.pointer (some ⟨ge, 0, none⟩)].toArray [].toArray, .func (.func 60) [.pointer (some ⟨ge, 0, none⟩)].toArray [].toArray]), rB g7 91 ([.int .i64 k.lid, .string k.nm, .int .i64 k.sz, k.lv])] := Hold.setB H13 3 rfl b23 c23 rfl
  clear H13
  clear b23 c23
  refine ⟨.inl (by kernel_rfl), ?_⟩
  refine edd (by kernel_rfl) ?_
  refine rt ?_
  have b24 : B w23 g4 42 ([.int .i64 0, .string noB, .slice none 0 0, .int .i64 0, .int .i64 0, .int .i64 0, .int .i64 0, .int .i64 0, .int .i64 0]) := Hold.blk H14 3 rfl
  have H15 : Hold w F w23 [rB ge 60 ((eC s b gp gw gd tv qn actv usd opn gl gk)), rPl gp (logs s b + s * b) rdf, rR kE 115 tv tab, rMW gw ((delK wk nm).map kfP), rMW gd (du.map kfP), rPool 2 pl, rB gl 2 ([.int .i64 (-1)])] := (show Hold w F w23 ([rB ge 60 ((eC s b gp gw gd tv qn actv usd opn gl gk)), rPl gp (logs s b + s * b) rdf, rR kE 115 tv tab, rMW gw ((delK wk nm).map kfP), rMW gd (du.map kfP), rPool 2 pl, rB gl 2 ([.int .i64 (-1)])] ++ [rB g4 42 ([.int .i64 0, .string noB, .slice none 0 0, .int .i64 0, .int .i64 0, .int .i64 0, .int .i64 0, .int .i64 0, .int .i64 0]), rB g3 29 ([.int .i64 4, .string nm, .string (⟨#[]⟩ : ByteArray), .int .i64 0]), rB g5 142 ([.nilFunc, .func (.func 53) [.pointer (some ⟨ge, 0, none⟩)].toArray [].toArray, .func (.func 54) [.pointer (some ⟨ge, 0, none⟩)].toArray [].toArray, .func (.func 55) [.pointer (some ⟨ge, 0, none⟩)].toArray [].toArray, .func (.func 56) [.pointer (some ⟨ge, 0, none⟩)].toArray [].toArray, .func (.func 57) [.pointer (some ⟨ge, 0, none⟩)].toArray [].toArray, .func (.func 58) [.pointer (some ⟨ge, 0, none⟩)].toArray [].toArray, .func (.func 59) [.pointer (some ⟨ge, 0, none⟩)].toArray [].toArray, .func (.func 60) [.pointer (some ⟨ge, 0, none⟩)].toArray [].toArray]), rB g7 91 ([.int .i64 k.lid, .string k.nm, .int .i64 k.sz, k.lv])]) from Hold.re H14 [0, 4, 5, 1, 2, 6, 7, 3, 8, 9, 10] (by kernel_rfl) (by rfl)).drop
  clear H14
  exact finc  (cs := [.int .i64 0, .string noB, .slice none 0 0, .int .i64 0, .int .i64 0, .int .i64 0, .int .i64 0, .int .i64 0, .int .i64 0]) Tryz.results34 Tryz.underlying42 rfl ti42 z4 b24 rfl  ⟨rfl, H15⟩
theorem call_read {w : World} {F : List Nat} {ge gp gw gd gl gk : Nat} {tv : Value} {s b qn actv usd opn : Int} {rdf : Int → List Int} {tab : List (Int × Bool)} {wk du : List Kf} {pl : List (Value × List Int)} {nm dt : ByteArray} (h : Hs w [rB ge 60 ((eC s b gp gw gd tv qn actv usd opn gl gk)), rPl gp (logs s b + s * b) rdf, rR kE 115 tv tab, rMW gw (wk.map kfP), rMW gd (du.map kfP), rPool 2 pl, rB gl 2 ([.int .i64 (-1)])] F) (nd : F.Nodup) {k : Kf} (hnm : okName (nums8 nm)) (hfk : findK wk nm = some k) (lt : tab.length ≤ 2000) (hml : (k.lv, k.ls) ∈ pl) (hoc : k.lv.oneCell' = true) (hnl : k.ls.length ≤ 100) (hls : LsOk s b rdf tab k.ls) (hsz : 0 ≤ k.sz ∧ k.sz ≤ 64 * (k.ls.length : Int)) : Ret Tryz.prog 34 #[.pointer (some ⟨ge, 0, none⟩), .agg #[.int .i64 2, .string nm, .string (⟨#[]⟩ : ByteArray), .int .i64 0]] w (fun r w' => r = ansV 0 (mkS ((catR rdf tab k.ls).take k.sz.toNat)) ∧ Hold w F w' [rB ge 60 ((eC s b gp gw gd tv qn actv usd opn gl gk)), rPl gp (logs s b + s * b) rdf, rR kE 115 tv tab, rMW gw (wk.map kfP), rMW gd (du.map kfP), rPool 2 pl, rB gl 2 ([.int .i64 (-1)])]) := by
  refine enter Tryz.func34 rfl Tryz.ntmps34 (by rfl) (by rfl) ?_
  have H0 : Hold w F w [rB ge 60 ((eC s b gp gw gd tv qn actv usd opn gl gk)), rPl gp (logs s b + s * b) rdf, rR kE 115 tv tab, rMW gw (wk.map kfP), rMW gd (du.map kfP), rPool 2 pl, rB gl 2 ([.int .i64 (-1)])] := Hold.begin h nd
  have hns : nm.size ≤ 9223372036854775807 := by have := hnm.2.2; rw [nums8_len] at this; omega
  refine sq (rg (ef (xbx (t := 29) rfl rfl) ?_))
  rintro _ w1 ⟨g3, e1, rfl, -, b1, c1⟩
  have H1 : Hold w F w1 [rB ge 60 ((eC s b gp gw gd tv qn actv usd opn gl gk)), rPl gp (logs s b + s * b) rdf, rR kE 115 tv tab, rMW gw (wk.map kfP), rMW gd (du.map kfP), rPool 2 pl, rB gl 2 ([.int .i64 (-1)]), rB g3 29 ([.int .i64 2, .string nm, .string (⟨#[]⟩ : ByteArray), .int .i64 0])] := Hold.newB H0 e1 b1 c1
  clear H0
  clear e1 b1 c1
  refine ef (xal ti42) ?_
  rintro _ w2 ⟨g4, e2, rfl, -, b2, c2⟩
  have H2 : Hold w F w2 [rB ge 60 ((eC s b gp gw gd tv qn actv usd opn gl gk)), rPl gp (logs s b + s * b) rdf, rR kE 115 tv tab, rMW gw (wk.map kfP), rMW gd (du.map kfP), rPool 2 pl, rB gl 2 ([.int .i64 (-1)]), rB g3 29 ([.int .i64 2, .string nm, .string (⟨#[]⟩ : ByteArray), .int .i64 0]), rB g4 42 ([.int .i64 0, .string ⟨#[]⟩, .slice none 0 0, .int .i64 0, .int .i64 0, .int .i64 0, .int .i64 0, .int .i64 0, .int .i64 0])] := Hold.newB H1 e2 b2 c2
  clear H1
  clear e2 b2 c2
  refine re (sq (rg (r (mv rfl) (r (mf (vs := [.pointer (some ⟨ge, 0, none⟩)]) (cs := []) (ac rfl an) an) (r (mv rfl) (r (mf (vs := [.pointer (some ⟨ge, 0, none⟩)]) (cs := []) (ac rfl an) an) (r (mv rfl) (r (mf (vs := [.pointer (some ⟨ge, 0, none⟩)]) (cs := []) (ac rfl an) an) (r (mv rfl) (r (mf (vs := [.pointer (some ⟨ge, 0, none⟩)]) (cs := []) (ac rfl an) an) (r (mv rfl) (r (mf (vs := [.pointer (some ⟨ge, 0, none⟩)]) (cs := []) (ac rfl an) an) (r (mv rfl) (r (mf (vs := [.pointer (some ⟨ge, 0, none⟩)]) (cs := []) (ac rfl an) an) (r (mv rfl) (r (mf (vs := [.pointer (some ⟨ge, 0, none⟩)]) (cs := []) (ac rfl an) an) (r (mv rfl) (r (mf (vs := [.pointer (some ⟨ge, 0, none⟩)]) (cs := []) (ac rfl an) an) (r (bda (r := [.nilFunc, .func (.func 53) [.pointer (some ⟨ge, 0, none⟩)].toArray [].toArray, .func (.func 54) [.pointer (some ⟨ge, 0, none⟩)].toArray [].toArray, .func (.func 55) [.pointer (some ⟨ge, 0, none⟩)].toArray [].toArray, .func (.func 56) [.pointer (some ⟨ge, 0, none⟩)].toArray [].toArray, .func (.func 57) [.pointer (some ⟨ge, 0, none⟩)].toArray [].toArray, .func (.func 58) [.pointer (some ⟨ge, 0, none⟩)].toArray [].toArray, .func (.func 59) [.pointer (some ⟨ge, 0, none⟩)].toArray [].toArray, .func (.func 60) [.pointer (some ⟨ge, 0, none⟩)].toArray [].toArray]) [(0, 1), (1, 1), (2, 1), (3, 1), (4, 1), (5, 1), (6, 1), (7, 1), (8, 1)] (by decide) Tryz.underlying142 ti142 ti94 (pc (v := .func (.func 53) [.pointer (some ⟨ge, 0, none⟩)].toArray [].toArray) (c := [.func (.func 53) [.pointer (some ⟨ge, 0, none⟩)].toArray [].toArray]) rfl (cel1 rfl) (pc (v := .func (.func 54) [.pointer (some ⟨ge, 0, none⟩)].toArray [].toArray) (c := [.func (.func 54) [.pointer (some ⟨ge, 0, none⟩)].toArray [].toArray]) rfl (cel1 rfl) (pc (v := .func (.func 55) [.pointer (some ⟨ge, 0, none⟩)].toArray [].toArray) (c := [.func (.func 55) [.pointer (some ⟨ge, 0, none⟩)].toArray [].toArray]) rfl (cel1 rfl) (pc (v := .func (.func 56) [.pointer (some ⟨ge, 0, none⟩)].toArray [].toArray) (c := [.func (.func 56) [.pointer (some ⟨ge, 0, none⟩)].toArray [].toArray]) rfl (cel1 rfl) (pc (v := .func (.func 57) [.pointer (some ⟨ge, 0, none⟩)].toArray [].toArray) (c := [.func (.func 57) [.pointer (some ⟨ge, 0, none⟩)].toArray [].toArray]) rfl (cel1 rfl) (pc (v := .func (.func 58) [.pointer (some ⟨ge, 0, none⟩)].toArray [].toArray) (c := [.func (.func 58) [.pointer (some ⟨ge, 0, none⟩)].toArray [].toArray]) rfl (cel1 rfl) (pc (v := .func (.func 59) [.pointer (some ⟨ge, 0, none⟩)].toArray [].toArray) (c := [.func (.func 59) [.pointer (some ⟨ge, 0, none⟩)].toArray [].toArray]) rfl (cel1 rfl) (pc (v := .func (.func 60) [.pointer (some ⟨ge, 0, none⟩)].toArray [].toArray) (c := [.func (.func 60) [.pointer (some ⟨ge, 0, none⟩)].toArray [].toArray]) rfl (cel1 rfl) pn)))))))) (by kernel_rfl)) (ef (xal ti142) ?_))))))))))))))))))))
  rintro _ w3 ⟨g5, e3, rfl, -, b3, c3⟩
  have H3 : Hold w F w3 [rB ge 60 ((eC s b gp gw gd tv qn actv usd opn gl gk)), rPl gp (logs s b + s * b) rdf, rR kE 115 tv tab, rMW gw (wk.map kfP), rMW gd (du.map kfP), rPool 2 pl, rB gl 2 ([.int .i64 (-1)]), rB g3 29 ([.int .i64 2, .string nm, .string (⟨#[]⟩ : ByteArray), .int .i64 0]), rB g4 42 ([.int .i64 0, .string ⟨#[]⟩, .slice none 0 0, .int .i64 0, .int .i64 0, .int .i64 0, .int .i64 0, .int .i64 0, .int .i64 0]), rB g5 142 ([.nilFunc, .nilFunc, .nilFunc, .nilFunc, .nilFunc, .nilFunc, .nilFunc, .nilFunc, .nilFunc])] := Hold.newB H2 e3 b3 c3
  clear H2
  clear e3 b3 c3
  have b4 : B w3 g5 142 ([.nilFunc, .nilFunc, .nilFunc, .nilFunc, .nilFunc, .nilFunc, .nilFunc, .nilFunc, .nilFunc]) := Hold.blk H3 9 rfl
  refine ef0 (xst (vs := [.nilFunc, .func (.func 53) [.pointer (some ⟨ge, 0, none⟩)].toArray [].toArray, .func (.func 54) [.pointer (some ⟨ge, 0, none⟩)].toArray [].toArray, .func (.func 55) [.pointer (some ⟨ge, 0, none⟩)].toArray [].toArray, .func (.func 56) [.pointer (some ⟨ge, 0, none⟩)].toArray [].toArray, .func (.func 57) [.pointer (some ⟨ge, 0, none⟩)].toArray [].toArray, .func (.func 58) [.pointer (some ⟨ge, 0, none⟩)].toArray [].toArray, .func (.func 59) [.pointer (some ⟨ge, 0, none⟩)].toArray [].toArray, .func (.func 60) [.pointer (some ⟨ge, 0, none⟩)].toArray [].toArray]) ti142 rfl rfl rfl b4 rfl (Nat.le_of_ble_eq_true rfl) (one_all rfl)) ?_
  rintro w5 ⟨-, b5, c5⟩
  have H4 : Hold w F w5 [rB ge 60 ((eC s b gp gw gd tv qn actv usd opn gl gk)), rPl gp (logs s b + s * b) rdf, rR kE 115 tv tab, rMW gw (wk.map kfP), rMW gd (du.map kfP), rPool 2 pl, rB gl 2 ([.int .i64 (-1)]), rB g3 29 ([.int .i64 2, .string nm, .string (⟨#[]⟩ : ByteArray), .int .i64 0]), rB g4 42 ([.int .i64 0, .string ⟨#[]⟩, .slice none 0 0, .int .i64 0, .int .i64 0, .int .i64 0, .int .i64 0, .int .i64 0, .int .i64 0]), rB g5 142 ([.nilFunc, .func (.func 53) [.pointer (some ⟨ge, 0, none⟩)].toArray [].toArray, .func (.func 54) [.pointer (some ⟨ge, 0, none⟩)].toArray [].toArray, .func (.func 55) [.pointer (some ⟨ge, 0, none⟩)].toArray [].toArray, .func (.func 56) [.pointer (some ⟨ge, 0, none⟩)].toArray [].toArray, .func (.func 57) [.pointer (some ⟨ge, 0, none⟩)].toArray [].toArray, .func (.func 58) [.pointer (some ⟨ge, 0, none⟩)].toArray [].toArray, .func (.func 59) [.pointer (some ⟨ge, 0, none⟩)].toArray [].toArray, .func (.func 60) [.pointer (some ⟨ge, 0, none⟩)].toArray [].toArray])] := Hold.setB H3 9 rfl b5 c5 rfl
  clear H3
  clear b5 c5
  refine re (sq (sq ?_))
  refine gen (fun ρ => ρ 0 = .pointer (some ⟨ge, 0, none⟩) ∧ ρ 3 = .pointer (some ⟨g3, 0, none⟩) ∧ ρ 4 = .pointer (some ⟨g4, 0, none⟩) ∧ ρ 5 = .pointer (some ⟨g5, 0, none⟩) ∧ True) ⟨rfl, rfl, rfl, rfl, trivial⟩ ?_
  rintro ρ ⟨z0, z3, z4, z5, -⟩
  have b6 : B w5 g3 29 ([.int .i64 2, .string nm, .string (⟨#[]⟩ : ByteArray), .int .i64 0]) := Hold.blk H4 7 rfl
  refine rg (r (fa Tryz.underlying29 rfl ti2 rfl z3) (r (ldb Tryz.underlying2 rfl rfl b6 rfl) (r (Rn.cast (v' := .bool false) (bi rfl rfl rfl) rfl) (r (Rn.cast (v' := .bool false) (mv rfl) rfl) (gy rfl rfl rfl (r (fa Tryz.underlying29 rfl ti2 rfl z3) (gy rfl rfl rfl (r (ldb Tryz.underlying2 rfl rfl b6 rfl) (gy rfl rfl rfl (r (Rn.cast (v' := .bool false) (bi rfl rfl rfl) rfl) (r (Rn.cast (v' := .bool false) (pk rfl rfl) rfl) (re (cf rfl (sk (sq (rg (r (fa Tryz.underlying29 rfl ti2 rfl z3) (r (ldb Tryz.underlying2 rfl rfl b6 rfl) (r (Rn.cast (v' := .bool true) (bi rfl rfl rfl) rfl) (r (sa rfl) (re (sq (sq ?_)))))))))))))))))))))))
  refine gen (fun ρ => ρ 0 = .pointer (some ⟨ge, 0, none⟩) ∧ ρ 3 = .pointer (some ⟨g3, 0, none⟩) ∧ ρ 4 = .pointer (some ⟨g4, 0, none⟩) ∧ ρ 5 = .pointer (some ⟨g5, 0, none⟩) ∧ ρ 6 = .bool true ∧ True) ⟨z0, z3, z4, z5, rfl, trivial⟩ ?_
  rintro ρ ⟨z0, z3, z4, z5, z6, -⟩
  refine rg (r (mv z6) (r (Rn.cast (v' := .bool false) (nt rfl) rfl) (r (Rn.cast (v' := .bool false) (mv rfl) rfl) (gn rfl rfl rfl (gn rfl rfl rfl (gn rfl rfl rfl (r (Rn.cast (v' := .bool false) (pk rfl rfl) rfl) (r (Rn.cast (v' := .bool false) (mv rfl) rfl) (gy rfl rfl rfl (r (fa Tryz.underlying29 rfl ti2 rfl z3) (gy rfl rfl rfl (r (ldb Tryz.underlying2 rfl rfl b6 rfl) (gy rfl rfl rfl (r (Rn.cast (v' := .bool true) (bi rfl rfl rfl) rfl) (gy rfl rfl rfl (r (Rn.cast (v' := .bool true) (mv rfl) rfl) (gy rfl rfl rfl (r (fa Tryz.underlying29 rfl ti9 rfl z3) (gy rfl rfl rfl (r (ldb Tryz.underlying9 rfl rfl b6 rfl) (gy rfl rfl rfl (r (Rn.cast (v' := .bool false) (sne rfl rfl) (congrArg Value.bool (by simp))) (gy rfl rfl rfl (r (Rn.cast (v' := .bool false) (pk rfl rfl) rfl) (r (Rn.cast (v' := .bool false) (pk rfl rfl) rfl) (r (Rn.cast (v' := .bool false) (mv rfl) rfl) (gy rfl rfl rfl (r (fa Tryz.underlying29 rfl ti2 rfl z3) (gy rfl rfl rfl (r (ldb Tryz.underlying2 rfl rfl b6 rfl) (gy rfl rfl rfl (r (Rn.cast (v' := .bool true) (bi rfl rfl rfl) rfl) (gy rfl rfl rfl (r (Rn.cast (v' := .bool true) (mv rfl) rfl) (gy rfl rfl rfl (r (fa Tryz.underlying29 rfl ti2 rfl z3) (gy rfl rfl rfl (r (ldb Tryz.underlying2 rfl rfl b6 rfl) (gy rfl rfl rfl (r (Rn.cast (v' := .bool false) (bi rfl rfl rfl) rfl) (gy rfl rfl rfl (r (Rn.cast (v' := .bool false) (pk rfl rfl) rfl) (r (Rn.cast (v' := .bool false) (pk rfl rfl) rfl) (re (cf rfl (sk (sq (sq ?_))))))))))))))))))))))))))))))))))))))))))))))))
  refine gen (fun ρ => ρ 0 = .pointer (some ⟨ge, 0, none⟩) ∧ ρ 3 = .pointer (some ⟨g3, 0, none⟩) ∧ ρ 4 = .pointer (some ⟨g4, 0, none⟩) ∧ ρ 5 = .pointer (some ⟨g5, 0, none⟩) ∧ ρ 6 = .bool true ∧ True) ⟨z0, z3, z4, z5, z6, trivial⟩ ?_
  rintro ρ ⟨z0, z3, z4, z5, z6, -⟩
  refine rg (r (Rn.cast (v' := .bool true) (mv z6) rfl) (r (Rn.cast (v' := .bool true) (mv rfl) rfl) (gy rfl rfl rfl (r (fa Tryz.underlying29 rfl ti9 rfl z3) (gy rfl rfl rfl (r (ldb Tryz.underlying9 rfl rfl b6 rfl) (gy rfl rfl rfl (cl go61 (impl_ValidName (by omega)) (ac rfl an) ?_))))))))
  rintro r wv ⟨er, cv9⟩
  rw [decide_eq_true hnm] at er
  subst er
  have H5 : Hold w F wv [rB ge 60 ((eC s b gp gw gd tv qn actv usd opn gl gk)), rPl gp (logs s b + s * b) rdf, rR kE 115 tv tab, rMW gw (wk.map kfP), rMW gd (du.map kfP), rPool 2 pl, rB gl 2 ([.int .i64 (-1)]), rB g3 29 ([.int .i64 2, .string nm, .string (⟨#[]⟩ : ByteArray), .int .i64 0]), rB g4 42 ([.int .i64 0, .string ⟨#[]⟩, .slice none 0 0, .int .i64 0, .int .i64 0, .int .i64 0, .int .i64 0, .int .i64 0, .int .i64 0]), rB g5 142 ([.nilFunc, .func (.func 53) [.pointer (some ⟨ge, 0, none⟩)].toArray [].toArray, .func (.func 54) [.pointer (some ⟨ge, 0, none⟩)].toArray [].toArray, .func (.func 55) [.pointer (some ⟨ge, 0, none⟩)].toArray [].toArray, .func (.func 56) [.pointer (some ⟨ge, 0, none⟩)].toArray [].toArray, .func (.func 57) [.pointer (some ⟨ge, 0, none⟩)].toArray [].toArray, .func (.func 58) [.pointer (some ⟨ge, 0, none⟩)].toArray [].toArray, .func (.func 59) [.pointer (some ⟨ge, 0, none⟩)].toArray [].toArray, .func (.func 60) [.pointer (some ⟨ge, 0, none⟩)].toArray [].toArray])] := Hold.t H4 cv9
  clear H4
  clear cv9
  refine gy rfl rfl rfl (r (Rn.cast (v' := .bool false) (nt rfl) rfl) (r (Rn.cast (v' := .bool false) (pk rfl rfl) rfl) (re (cf rfl (sk (sq ?_))))))
  refine sq ?_
  refine rde mixed ?_
  intro w8 c8
  have H6 : Hold w F w8 [rB ge 60 ((eC s b gp gw gd tv qn actv usd opn gl gk)), rPl gp (logs s b + s * b) rdf, rR kE 115 tv tab, rMW gw (wk.map kfP), rMW gd (du.map kfP), rPool 2 pl, rB gl 2 ([.int .i64 (-1)]), rB g3 29 ([.int .i64 2, .string nm, .string (⟨#[]⟩ : ByteArray), .int .i64 0]), rB g4 42 ([.int .i64 0, .string ⟨#[]⟩, .slice none 0 0, .int .i64 0, .int .i64 0, .int .i64 0, .int .i64 0, .int .i64 0, .int .i64 0]), rB g5 142 ([.nilFunc, .func (.func 53) [.pointer (some ⟨ge, 0, none⟩)].toArray [].toArray, .func (.func 54) [.pointer (some ⟨ge, 0, none⟩)].toArray [].toArray, .func (.func 55) [.pointer (some ⟨ge, 0, none⟩)].toArray [].toArray, .func (.func 56) [.pointer (some ⟨ge, 0, none⟩)].toArray [].toArray, .func (.func 57) [.pointer (some ⟨ge, 0, none⟩)].toArray [].toArray, .func (.func 58) [.pointer (some ⟨ge, 0, none⟩)].toArray [].toArray, .func (.func 59) [.pointer (some ⟨ge, 0, none⟩)].toArray [].toArray, .func (.func 60) [.pointer (some ⟨ge, 0, none⟩)].toArray [].toArray])] := Hold.t H5 c8
  clear H5
  clear c8
  have H9d0 : Hold w8 [] w8 [] := Hold.start w8
  refine ⟨fun w' => Ch [] w8 w', Ch.refl _ _, ?_⟩
  have b10 : B w8 ge 60 ((eC s b gp gw gd tv qn actv usd opn gl gk)) := Hold.blk H6 0 rfl
  have b11 : B w8 g3 29 ([.int .i64 2, .string nm, .string (⟨#[]⟩ : ByteArray), .int .i64 0]) := Hold.blk H6 7 rfl
  have b12 : MpW w8 gw (wk.map kfP) := Hold.mpw H6 3 rfl
  refine edt 0 rfl (by kernel_rfl) (fun w' hS => mv z0) (edt 1 rfl (by kernel_rfl) (fun w' hS => nck rfl) (edt 2 rfl (by kernel_rfl) (fun w' hS => fa Tryz.underlying60 rfl ti56 rfl rfl) (edt 3 rfl (by kernel_rfl) (fun w' hS => fa Tryz.underlying56 rfl ti54 rfl rfl) (edt 4 rfl (by kernel_rfl) (fun w' hS => fa Tryz.underlying54 rfl ti52 rfl rfl) (edt 5 rfl (by kernel_rfl) (fun w' hS => ldb Tryz.underlying52 rfl rfl (hS.b0 b10) rfl) (edt 6 rfl (by kernel_rfl) (fun w' hS => fa Tryz.underlying29 rfl ti9 rfl z3) (edt 7 rfl (by kernel_rfl) (fun w' hS => ldb Tryz.underlying9 rfl rfl (hS.b0 b11) rfl) (edt 8 rfl (by kernel_rfl) (fun w' hS => Rn.cast (v' := .tuple #[.agg #[.int .i64 k.lid, .string k.nm, .int .i64 k.sz, k.lv], .bool true]) (lkps Tryz.underlying52 Tryz.underlying9 ti91 rfl rfl (MpW.s (MpW.t hS b12))) (by rw [look_kf, hfk]; rfl)) (edt 9 rfl (by kernel_rfl) (fun w' hS => mv rfl) (edt 10 rfl (by kernel_rfl) (fun w' hS => xt rfl rfl) (edt 11 rfl (by kernel_rfl) (fun w' hS => xt rfl rfl) (ed1 12 (by kernel_rfl) <| euf rfl (xal ti91) ?_))))))))))))
  rintro _ w13 ⟨g7, e13, rfl, -, b13, c13⟩
  have H7d : Hold w8 [] w13 [rB g7 91 ([.int .i64 0, .string ⟨#[]⟩, .int .i64 0, .slice none 0 0])] := Hold.newB H9d0 e13 b13 c13
  clear H9d0
  clear e13 b13 c13
  refine ⟨.inr (Hold.ch H7d), ?_⟩
  have b14 : B w13 g7 91 ([.int .i64 0, .string ⟨#[]⟩, .int .i64 0, .slice none 0 0]) := Hold.blk H7d 0 rfl
  refine ed1 13 (by kernel_rfl) <| euf0 rfl (xst (vs := [.int .i64 k.lid, .string k.nm, .int .i64 k.sz, k.lv]) ti91 rfl rfl rfl b14 rfl (Nat.le_of_ble_eq_true rfl) (oc rfl (oc rfl (oc rfl (oc hoc on))))) ?_
  rintro w15 ⟨-, b15, c15⟩
  have H8d : Hold w8 [] w15 [rB g7 91 ([.int .i64 k.lid, .string k.nm, .int .i64 k.sz, k.lv])] := Hold.setB H7d 0 rfl b15 c15 rfl
  clear H7d
  clear b15 c15
  refine ⟨.inr (Hold.ch H8d), ?_⟩
  have H9 : Hold w F w15 [rB ge 60 ((eC s b gp gw gd tv qn actv usd opn gl gk)), rPl gp (logs s b + s * b) rdf, rR kE 115 tv tab, rMW gw (wk.map kfP), rMW gd (du.map kfP), rPool 2 pl, rB gl 2 ([.int .i64 (-1)]), rB g3 29 ([.int .i64 2, .string nm, .string (⟨#[]⟩ : ByteArray), .int .i64 0]), rB g4 42 ([.int .i64 0, .string ⟨#[]⟩, .slice none 0 0, .int .i64 0, .int .i64 0, .int .i64 0, .int .i64 0, .int .i64 0, .int .i64 0]), rB g5 142 ([.nilFunc, .func (.func 53) [.pointer (some ⟨ge, 0, none⟩)].toArray [].toArray, .func (.func 54) [.pointer (some ⟨ge, 0, none⟩)].toArray [].toArray, .func (.func 55) [.pointer (some ⟨ge, 0, none⟩)].toArray [].toArray, .func (.func 56) [.pointer (some ⟨ge, 0, none⟩)].toArray [].toArray, .func (.func 57) [.pointer (some ⟨ge, 0, none⟩)].toArray [].toArray, .func (.func 58) [.pointer (some ⟨ge, 0, none⟩)].toArray [].toArray, .func (.func 59) [.pointer (some ⟨ge, 0, none⟩)].toArray [].toArray, .func (.func 60) [.pointer (some ⟨ge, 0, none⟩)].toArray [].toArray]), rB g7 91 ([.int .i64 k.lid, .string k.nm, .int .i64 k.sz, k.lv])] := Hold.news H6 H8d
  clear H8d H6
  refine ed1 14 (by kernel_rfl) <| eur rfl (sa rfl) (.inl (by kernel_rfl)) ?_
  refine edd (by kernel_rfl) ?_
  refine sq ?_
  refine gen (fun ρ => ρ 3 = .pointer (some ⟨g3, 0, none⟩) ∧ ρ 4 = .pointer (some ⟨g4, 0, none⟩) ∧ ρ 5 = .pointer (some ⟨g5, 0, none⟩) ∧ ρ 6 = .bool true ∧ ρ 8 = .bool true ∧ True) ⟨z3, z4, z5, z6, rfl, trivial⟩ ?_
  rintro ρ ⟨z3, z4, z5, z6, z8, -⟩
  have b16 : B w15 g3 29 ([.int .i64 2, .string nm, .string (⟨#[]⟩ : ByteArray), .int .i64 0]) := Hold.blk H9 7 rfl
  refine rg (r (Rn.cast (v' := .bool true) (mv z6) rfl) (r (Rn.cast (v' := .bool true) (mv rfl) rfl) (gy rfl rfl rfl (r (fa Tryz.underlying29 rfl ti2 rfl z3) (gy rfl rfl rfl (r (ldb Tryz.underlying2 rfl rfl b16 rfl) (gy rfl rfl rfl (r (Rn.cast (v' := .bool true) (bi rfl rfl rfl) rfl) (r (Rn.cast (v' := .bool true) (pk rfl rfl) rfl) (r (Rn.cast (v' := .bool true) (mv rfl) rfl) (gy rfl rfl rfl (r (mv z8) (gy rfl rfl rfl (r (Rn.cast (v' := .bool false) (nt rfl) rfl) (r (Rn.cast (v' := .bool false) (pk rfl rfl) rfl) (re (cf rfl (sk ?_))))))))))))))))))
  refine sq ?_
  refine gen (fun ρ => ρ 3 = .pointer (some ⟨g3, 0, none⟩) ∧ ρ 4 = .pointer (some ⟨g4, 0, none⟩) ∧ ρ 5 = .pointer (some ⟨g5, 0, none⟩) ∧ True) ⟨z3, z4, z5, trivial⟩ ?_
  rintro ρ ⟨z3, z4, z5, -⟩
  refine rde mixed ?_
  intro w17 c17
  have H10 : Hold w F w17 [rB ge 60 ((eC s b gp gw gd tv qn actv usd opn gl gk)), rPl gp (logs s b + s * b) rdf, rR kE 115 tv tab, rMW gw (wk.map kfP), rMW gd (du.map kfP), rPool 2 pl, rB gl 2 ([.int .i64 (-1)]), rB g3 29 ([.int .i64 2, .string nm, .string (⟨#[]⟩ : ByteArray), .int .i64 0]), rB g4 42 ([.int .i64 0, .string ⟨#[]⟩, .slice none 0 0, .int .i64 0, .int .i64 0, .int .i64 0, .int .i64 0, .int .i64 0, .int .i64 0]), rB g5 142 ([.nilFunc, .func (.func 53) [.pointer (some ⟨ge, 0, none⟩)].toArray [].toArray, .func (.func 54) [.pointer (some ⟨ge, 0, none⟩)].toArray [].toArray, .func (.func 55) [.pointer (some ⟨ge, 0, none⟩)].toArray [].toArray, .func (.func 56) [.pointer (some ⟨ge, 0, none⟩)].toArray [].toArray, .func (.func 57) [.pointer (some ⟨ge, 0, none⟩)].toArray [].toArray, .func (.func 58) [.pointer (some ⟨ge, 0, none⟩)].toArray [].toArray, .func (.func 59) [.pointer (some ⟨ge, 0, none⟩)].toArray [].toArray, .func (.func 60) [.pointer (some ⟨ge, 0, none⟩)].toArray [].toArray]), rB g7 91 ([.int .i64 k.lid, .string k.nm, .int .i64 k.sz, k.lv])] := Hold.t H9 c17
  clear H9
  clear c17
  have H11 : Hold w F w17 [rB ge 60 ((eC s b gp gw gd tv qn actv usd opn gl gk)), rPl gp (logs s b + s * b) rdf, rR kE 115 tv tab, rMW gw (wk.map kfP), rPool 2 pl, rB g4 42 ([.int .i64 0, .string ⟨#[]⟩, .slice none 0 0, .int .i64 0, .int .i64 0, .int .i64 0, .int .i64 0, .int .i64 0, .int .i64 0]), rMW gd (du.map kfP), rB gl 2 ([.int .i64 (-1)]), rB g3 29 ([.int .i64 2, .string nm, .string (⟨#[]⟩ : ByteArray), .int .i64 0]), rB g5 142 ([.nilFunc, .func (.func 53) [.pointer (some ⟨ge, 0, none⟩)].toArray [].toArray, .func (.func 54) [.pointer (some ⟨ge, 0, none⟩)].toArray [].toArray, .func (.func 55) [.pointer (some ⟨ge, 0, none⟩)].toArray [].toArray, .func (.func 56) [.pointer (some ⟨ge, 0, none⟩)].toArray [].toArray, .func (.func 57) [.pointer (some ⟨ge, 0, none⟩)].toArray [].toArray, .func (.func 58) [.pointer (some ⟨ge, 0, none⟩)].toArray [].toArray, .func (.func 59) [.pointer (some ⟨ge, 0, none⟩)].toArray [].toArray, .func (.func 60) [.pointer (some ⟨ge, 0, none⟩)].toArray [].toArray]), rB g7 91 ([.int .i64 k.lid, .string k.nm, .int .i64 k.sz, k.lv])] := Hold.re H10 [0, 1, 2, 3, 5, 8, 4, 6, 7, 9, 10] (by kernel_rfl) (by rfl)
  clear H10
  obtain ⟨Fd18, hFd18, nd18, Kd18, Xd18, sd18⟩ := Hold.frontx (Γ := [rB ge 60 ((eC s b gp gw gd tv qn actv usd opn gl gk)), rPl gp (logs s b + s * b) rdf, rR kE 115 tv tab, rMW gw (wk.map kfP), rPool 2 pl, rB g4 42 ([.int .i64 0, .string ⟨#[]⟩, .slice none 0 0, .int .i64 0, .int .i64 0, .int .i64 0, .int .i64 0, .int .i64 0, .int .i64 0])]) (Δ := [rMW gd (du.map kfP), rB gl 2 ([.int .i64 (-1)]), rB g3 29 ([.int .i64 2, .string nm, .string (⟨#[]⟩ : ByteArray), .int .i64 0]), rB g5 142 ([.nilFunc, .func (.func 53) [.pointer (some ⟨ge, 0, none⟩)].toArray [].toArray, .func (.func 54) [.pointer (some ⟨ge, 0, none⟩)].toArray [].toArray, .func (.func 55) [.pointer (some ⟨ge, 0, none⟩)].toArray [].toArray, .func (.func 56) [.pointer (some ⟨ge, 0, none⟩)].toArray [].toArray, .func (.func 57) [.pointer (some ⟨ge, 0, none⟩)].toArray [].toArray, .func (.func 58) [.pointer (some ⟨ge, 0, none⟩)].toArray [].toArray, .func (.func 59) [.pointer (some ⟨ge, 0, none⟩)].toArray [].toArray, .func (.func 60) [.pointer (some ⟨ge, 0, none⟩)].toArray [].toArray]), rB g7 91 ([.int .i64 k.lid, .string k.nm, .int .i64 k.sz, k.lv])]) H11
  have H18d0 : Hold w17 Fd18 w17 [rB ge 60 ((eC s b gp gw gd tv qn actv usd opn gl gk)), rPl gp (logs s b + s * b) rdf, rR kE 115 tv tab, rMW gw (wk.map kfP), rPool 2 pl, rB g4 42 ([.int .i64 0, .string ⟨#[]⟩, .slice none 0 0, .int .i64 0, .int .i64 0, .int .i64 0, .int .i64 0, .int .i64 0, .int .i64 0])] := Hold.begin hFd18 nd18
  refine ⟨fun w' => Ch Fd18 w17 w', Ch.refl _ _, ?_⟩
  obtain ⟨_, ⟨rfl, b19⟩, x19⟩ := Xd18 2 (rB g3 29 ([.int .i64 2, .string nm, .string (⟨#[]⟩ : ByteArray), .int .i64 0])) rfl
  obtain ⟨_, ⟨rfl, b20⟩, x20⟩ := Xd18 3 (rB g5 142 ([.nilFunc, .func (.func 53) [.pointer (some ⟨ge, 0, none⟩)].toArray [].toArray, .func (.func 54) [.pointer (some ⟨ge, 0, none⟩)].toArray [].toArray, .func (.func 55) [.pointer (some ⟨ge, 0, none⟩)].toArray [].toArray, .func (.func 56) [.pointer (some ⟨ge, 0, none⟩)].toArray [].toArray, .func (.func 57) [.pointer (some ⟨ge, 0, none⟩)].toArray [].toArray, .func (.func 58) [.pointer (some ⟨ge, 0, none⟩)].toArray [].toArray, .func (.func 59) [.pointer (some ⟨ge, 0, none⟩)].toArray [].toArray, .func (.func 60) [.pointer (some ⟨ge, 0, none⟩)].toArray [].toArray])) rfl
  obtain ⟨F21, hF21, n21, s21, K21⟩ := Hold.front (Γ := [rB ge 60 ((eC s b gp gw gd tv qn actv usd opn gl gk)), rPl gp (logs s b + s * b) rdf, rR kE 115 tv tab, rMW gw (wk.map kfP), rPool 2 pl]) (Δ := [rB g4 42 ([.int .i64 0, .string ⟨#[]⟩, .slice none 0 0, .int .i64 0, .int .i64 0, .int .i64 0, .int .i64 0, .int .i64 0, .int .i64 0])]) H18d0
  refine edt 0 rfl (by kernel_rfl) (fun w' hS => fa Tryz.underlying29 rfl ti2 rfl z3) (edt 1 rfl (by kernel_rfl) (fun w' hS => ldb Tryz.underlying2 rfl rfl (hS.b b19 (x19 _ (by simp))) rfl) (edt 2 rfl (by kernel_rfl) (fun w' hS => ixar 2 Tryz.underlying142 ti94 z5 rfl (by decide)) (edt 3 rfl (by kernel_rfl) (fun w' hS => ldb Tryz.underlying94 rfl rfl (hS.b b20 (x20 _ (by simp))) rfl) (edt 4 rfl (by kernel_rfl) (fun w' hS => lab [.int .i64 2, .string nm, .string (⟨#[]⟩ : ByteArray), .int .i64 0] Tryz.underlying29 rfl ti29 z3 (hS.b b19 (x19 _ (by simp))) rfl rfl) (ed1 5 (by kernel_rfl) <| eucb rfl rfl go54 (ac rfl an) (eng_readFile hF21 n21 lt hfk hml hoc hnl hls hsz) ?_)))))
  rintro r ww ⟨rfl, Hw⟩
  have H12d : Hold w17 Fd18 ww [rB ge 60 ((eC s b gp gw gd tv qn actv usd opn gl gk)), rPl gp (logs s b + s * b) rdf, rR kE 115 tv tab, rMW gw (wk.map kfP), rPool 2 pl, rB g4 42 ([.int .i64 0, .string ⟨#[]⟩, .slice none 0 0, .int .i64 0, .int .i64 0, .int .i64 0, .int .i64 0, .int .i64 0, .int .i64 0])] := Hold.call K21 Hw
  clear H18d0
  clear K21 hF21 n21 s21
  clear Hw
  refine ⟨.inr (Hold.ch H12d), ?_⟩
  have H13 : Hold w F ww [rB ge 60 ((eC s b gp gw gd tv qn actv usd opn gl gk)), rPl gp (logs s b + s * b) rdf, rR kE 115 tv tab, rMW gw (wk.map kfP), rPool 2 pl, rB g4 42 ([.int .i64 0, .string ⟨#[]⟩, .slice none 0 0, .int .i64 0, .int .i64 0, .int .i64 0, .int .i64 0, .int .i64 0, .int .i64 0]), rMW gd (du.map kfP), rB gl 2 ([.int .i64 (-1)]), rB g3 29 ([.int .i64 2, .string nm, .string (⟨#[]⟩ : ByteArray), .int .i64 0]), rB g5 142 ([.nilFunc, .func (.func 53) [.pointer (some ⟨ge, 0, none⟩)].toArray [].toArray, .func (.func 54) [.pointer (some ⟨ge, 0, none⟩)].toArray [].toArray, .func (.func 55) [.pointer (some ⟨ge, 0, none⟩)].toArray [].toArray, .func (.func 56) [.pointer (some ⟨ge, 0, none⟩)].toArray [].toArray, .func (.func 57) [.pointer (some ⟨ge, 0, none⟩)].toArray [].toArray, .func (.func 58) [.pointer (some ⟨ge, 0, none⟩)].toArray [].toArray, .func (.func 59) [.pointer (some ⟨ge, 0, none⟩)].toArray [].toArray, .func (.func 60) [.pointer (some ⟨ge, 0, none⟩)].toArray [].toArray]), rB g7 91 ([.int .i64 k.lid, .string k.nm, .int .i64 k.sz, k.lv])] := Hold.call Kd18 H12d
  clear H12d H11
  have b22 : B ww g4 42 ([.int .i64 0, .string ⟨#[]⟩, .slice none 0 0, .int .i64 0, .int .i64 0, .int .i64 0, .int .i64 0, .int .i64 0, .int .i64 0]) := Hold.blk H13 5 rfl
  refine ed1 6 (by kernel_rfl) <| euf0 rfl (xst (vs := [.int .i64 0, .string (mkS ((catR rdf tab k.ls).take k.sz.toNat)), .slice none 0 0, .int .i64 0, .int .i64 0, .int .i64 0, .int .i64 0, .int .i64 0, .int .i64 0]) ti42 z4 rfl rfl b22 rfl (Nat.le_of_ble_eq_true rfl) (one_all rfl)) ?_
  rintro w23 ⟨-, b23, c23⟩
  have H14 : Hold w F w23 [rB ge 60 ((eC s b gp gw gd tv qn actv usd opn gl gk)), rPl gp (logs s b + s * b) rdf, rR kE 115 tv tab, rMW gw (wk.map kfP), rPool 2 pl, rB g4 42 ([.int .i64 0, .string (mkS ((catR rdf tab k.ls).take k.sz.toNat)), .slice none 0 0, .int .i64 0, .int .i64 0, .int .i64 0, .int .i64 0, .int .i64 0, .int .i64 0]), rMW gd (du.map kfP), rB gl 2 ([.int .i64 (-1)]), rB g3 29 ([.int .i64 2, .string nm, .string (⟨#[]⟩ : ByteArray), .int .i64 0]), rB g5 142 ([.nilFunc, .func (.func 53) [.pointer (some ⟨ge, 0, none⟩)].toArray [].toArray, .func (.func 54) [.pointer (some ⟨ge, 0, none⟩)].toArray [].toArray, .func (.func 55) [.pointer (some ⟨ge, 0, none⟩)].toArray [].toArray, .func (.func 56) [.pointer (some ⟨ge, 0, none⟩)].toArray [].toArray, .func (.func 57) [.pointer (some ⟨ge, 0, none⟩)].toArray [].toArray, .func (.func 58) [.pointer (some ⟨ge, 0, none⟩)].toArray [].toArray, .func (.func 59) [.pointer (some ⟨ge, 0, none⟩)].toArray [].toArray, .func (.func 60) [.pointer (some ⟨ge, 0, none⟩)].toArray [].toArray]), rB g7 91 ([.int .i64 k.lid, .string k.nm, .int .i64 k.sz, k.lv])] := Hold.setB H13 5 rfl b23 c23 rfl
  clear H13
  clear b23 c23
  refine ⟨.inl (by kernel_rfl), ?_⟩
  refine edd (by kernel_rfl) ?_
  refine rt ?_
  have b24 : B w23 g4 42 ([.int .i64 0, .string (mkS ((catR rdf tab k.ls).take k.sz.toNat)), .slice none 0 0, .int .i64 0, .int .i64 0, .int .i64 0, .int .i64 0, .int .i64 0, .int .i64 0]) := Hold.blk H14 5 rfl
  have H15 : Hold w F w23 [rB ge 60 ((eC s b gp gw gd tv qn actv usd opn gl gk)), rPl gp (logs s b + s * b) rdf, rR kE 115 tv tab, rMW gw (wk.map kfP), rMW gd (du.map kfP), rPool 2 pl, rB gl 2 ([.int .i64 (-1)])] := (show Hold w F w23 ([rB ge 60 ((eC s b gp gw gd tv qn actv usd opn gl gk)), rPl gp (logs s b + s * b) rdf, rR kE 115 tv tab, rMW gw (wk.map kfP), rMW gd (du.map kfP), rPool 2 pl, rB gl 2 ([.int .i64 (-1)])] ++ [rB g4 42 ([.int .i64 0, .string (mkS ((catR rdf tab k.ls).take k.sz.toNat)), .slice none 0 0, .int .i64 0, .int .i64 0, .int .i64 0, .int .i64 0, .int .i64 0, .int .i64 0]), rB g3 29 ([.int .i64 2, .string nm, .string (⟨#[]⟩ : ByteArray), .int .i64 0]), rB g5 142 ([.nilFunc, .func (.func 53) [.pointer (some ⟨ge, 0, none⟩)].toArray [].toArray, .func (.func 54) [.pointer (some ⟨ge, 0, none⟩)].toArray [].toArray, .func (.func 55) [.pointer (some ⟨ge, 0, none⟩)].toArray [].toArray, .func (.func 56) [.pointer (some ⟨ge, 0, none⟩)].toArray [].toArray, .func (.func 57) [.pointer (some ⟨ge, 0, none⟩)].toArray [].toArray, .func (.func 58) [.pointer (some ⟨ge, 0, none⟩)].toArray [].toArray, .func (.func 59) [.pointer (some ⟨ge, 0, none⟩)].toArray [].toArray, .func (.func 60) [.pointer (some ⟨ge, 0, none⟩)].toArray [].toArray]), rB g7 91 ([.int .i64 k.lid, .string k.nm, .int .i64 k.sz, k.lv])]) from Hold.re H14 [0, 1, 2, 3, 6, 4, 7, 5, 8, 9, 10] (by kernel_rfl) (by rfl)).drop
  clear H14
  exact finc  (cs := [.int .i64 0, .string (mkS ((catR rdf tab k.ls).take k.sz.toNat)), .slice none 0 0, .int .i64 0, .int .i64 0, .int .i64 0, .int .i64 0, .int .i64 0, .int .i64 0]) Tryz.results34 Tryz.underlying42 rfl ti42 z4 b24 rfl  ⟨rfl, H15⟩
theorem call_none {w : World} {F : List Nat} {ge gp gw gd gl gk : Nat} {tv : Value} {s b qn actv usd opn : Int} {rdf : Int → List Int} {tab : List (Int × Bool)} {wk du : List Kf} {pl : List (Value × List Int)} {nm dt : ByteArray} (h : Hs w [rB ge 60 ((eC s b gp gw gd tv qn actv usd opn gl gk)), rPl gp (logs s b + s * b) rdf, rR kE 115 tv tab, rMW gw (wk.map kfP), rMW gd (du.map kfP), rPool 2 pl, rB gl 2 ([.int .i64 (-1)])] F) (nd : F.Nodup) (hnm : okName (nums8 nm)) (hfk : findK wk nm = none) : Ret Tryz.prog 34 #[.pointer (some ⟨ge, 0, none⟩), .agg #[.int .i64 2, .string nm, .string (⟨#[]⟩ : ByteArray), .int .i64 0]] w (fun r w' => r = ansV 22 noB ∧ Hold w F w' [rB ge 60 ((eC s b gp gw gd tv qn actv usd opn gl gk)), rPl gp (logs s b + s * b) rdf, rR kE 115 tv tab, rMW gw (wk.map kfP), rMW gd (du.map kfP), rPool 2 pl, rB gl 2 ([.int .i64 (-1)])]) := by
  refine enter Tryz.func34 rfl Tryz.ntmps34 (by rfl) (by rfl) ?_
  have H0 : Hold w F w [rB ge 60 ((eC s b gp gw gd tv qn actv usd opn gl gk)), rPl gp (logs s b + s * b) rdf, rR kE 115 tv tab, rMW gw (wk.map kfP), rMW gd (du.map kfP), rPool 2 pl, rB gl 2 ([.int .i64 (-1)])] := Hold.begin h nd
  have hns : nm.size ≤ 9223372036854775807 := by have := hnm.2.2; rw [nums8_len] at this; omega
  refine sq (rg (ef (xbx (t := 29) rfl rfl) ?_))
  rintro _ w1 ⟨g3, e1, rfl, -, b1, c1⟩
  have H1 : Hold w F w1 [rB ge 60 ((eC s b gp gw gd tv qn actv usd opn gl gk)), rPl gp (logs s b + s * b) rdf, rR kE 115 tv tab, rMW gw (wk.map kfP), rMW gd (du.map kfP), rPool 2 pl, rB gl 2 ([.int .i64 (-1)]), rB g3 29 ([.int .i64 2, .string nm, .string (⟨#[]⟩ : ByteArray), .int .i64 0])] := Hold.newB H0 e1 b1 c1
  clear H0
  clear e1 b1 c1
  refine ef (xal ti42) ?_
  rintro _ w2 ⟨g4, e2, rfl, -, b2, c2⟩
  have H2 : Hold w F w2 [rB ge 60 ((eC s b gp gw gd tv qn actv usd opn gl gk)), rPl gp (logs s b + s * b) rdf, rR kE 115 tv tab, rMW gw (wk.map kfP), rMW gd (du.map kfP), rPool 2 pl, rB gl 2 ([.int .i64 (-1)]), rB g3 29 ([.int .i64 2, .string nm, .string (⟨#[]⟩ : ByteArray), .int .i64 0]), rB g4 42 ([.int .i64 0, .string ⟨#[]⟩, .slice none 0 0, .int .i64 0, .int .i64 0, .int .i64 0, .int .i64 0, .int .i64 0, .int .i64 0])] := Hold.newB H1 e2 b2 c2
  clear H1
  clear e2 b2 c2
  refine re (sq (rg (r (mv rfl) (r (mf (vs := [.pointer (some ⟨ge, 0, none⟩)]) (cs := []) (ac rfl an) an) (r (mv rfl) (r (mf (vs := [.pointer (some ⟨ge, 0, none⟩)]) (cs := []) (ac rfl an) an) (r (mv rfl) (r (mf (vs := [.pointer (some ⟨ge, 0, none⟩)]) (cs := []) (ac rfl an) an) (r (mv rfl) (r (mf (vs := [.pointer (some ⟨ge, 0, none⟩)]) (cs := []) (ac rfl an) an) (r (mv rfl) (r (mf (vs := [.pointer (some ⟨ge, 0, none⟩)]) (cs := []) (ac rfl an) an) (r (mv rfl) (r (mf (vs := [.pointer (some ⟨ge, 0, none⟩)]) (cs := []) (ac rfl an) an) (r (mv rfl) (r (mf (vs := [.pointer (some ⟨ge, 0, none⟩)]) (cs := []) (ac rfl an) an) (r (mv rfl) (r (mf (vs := [.pointer (some ⟨ge, 0, none⟩)]) (cs := []) (ac rfl an) an) (r (bda (r := [.nilFunc, .func (.func 53) [.pointer (some ⟨ge, 0, none⟩)].toArray [].toArray, .func (.func 54) [.pointer (some ⟨ge, 0, none⟩)].toArray [].toArray, .func (.func 55) [.pointer (some ⟨ge, 0, none⟩)].toArray [].toArray, .func (.func 56) [.pointer (some ⟨ge, 0, none⟩)].toArray [].toArray, .func (.func 57) [.pointer (some ⟨ge, 0, none⟩)].toArray [].toArray, .func (.func 58) [.pointer (some ⟨ge, 0, none⟩)].toArray [].toArray, .func (.func 59) [.pointer (some ⟨ge, 0, none⟩)].toArray [].toArray, .func (.func 60) [.pointer (some ⟨ge, 0, none⟩)].toArray [].toArray]) [(0, 1), (1, 1), (2, 1), (3, 1), (4, 1), (5, 1), (6, 1), (7, 1), (8, 1)] (by decide) Tryz.underlying142 ti142 ti94 (pc (v := .func (.func 53) [.pointer (some ⟨ge, 0, none⟩)].toArray [].toArray) (c := [.func (.func 53) [.pointer (some ⟨ge, 0, none⟩)].toArray [].toArray]) rfl (cel1 rfl) (pc (v := .func (.func 54) [.pointer (some ⟨ge, 0, none⟩)].toArray [].toArray) (c := [.func (.func 54) [.pointer (some ⟨ge, 0, none⟩)].toArray [].toArray]) rfl (cel1 rfl) (pc (v := .func (.func 55) [.pointer (some ⟨ge, 0, none⟩)].toArray [].toArray) (c := [.func (.func 55) [.pointer (some ⟨ge, 0, none⟩)].toArray [].toArray]) rfl (cel1 rfl) (pc (v := .func (.func 56) [.pointer (some ⟨ge, 0, none⟩)].toArray [].toArray) (c := [.func (.func 56) [.pointer (some ⟨ge, 0, none⟩)].toArray [].toArray]) rfl (cel1 rfl) (pc (v := .func (.func 57) [.pointer (some ⟨ge, 0, none⟩)].toArray [].toArray) (c := [.func (.func 57) [.pointer (some ⟨ge, 0, none⟩)].toArray [].toArray]) rfl (cel1 rfl) (pc (v := .func (.func 58) [.pointer (some ⟨ge, 0, none⟩)].toArray [].toArray) (c := [.func (.func 58) [.pointer (some ⟨ge, 0, none⟩)].toArray [].toArray]) rfl (cel1 rfl) (pc (v := .func (.func 59) [.pointer (some ⟨ge, 0, none⟩)].toArray [].toArray) (c := [.func (.func 59) [.pointer (some ⟨ge, 0, none⟩)].toArray [].toArray]) rfl (cel1 rfl) (pc (v := .func (.func 60) [.pointer (some ⟨ge, 0, none⟩)].toArray [].toArray) (c := [.func (.func 60) [.pointer (some ⟨ge, 0, none⟩)].toArray [].toArray]) rfl (cel1 rfl) pn)))))))) (by kernel_rfl)) (ef (xal ti142) ?_))))))))))))))))))))
  rintro _ w3 ⟨g5, e3, rfl, -, b3, c3⟩
  have H3 : Hold w F w3 [rB ge 60 ((eC s b gp gw gd tv qn actv usd opn gl gk)), rPl gp (logs s b + s * b) rdf, rR kE 115 tv tab, rMW gw (wk.map kfP), rMW gd (du.map kfP), rPool 2 pl, rB gl 2 ([.int .i64 (-1)]), rB g3 29 ([.int .i64 2, .string nm, .string (⟨#[]⟩ : ByteArray), .int .i64 0]), rB g4 42 ([.int .i64 0, .string ⟨#[]⟩, .slice none 0 0, .int .i64 0, .int .i64 0, .int .i64 0, .int .i64 0, .int .i64 0, .int .i64 0]), rB g5 142 ([.nilFunc, .nilFunc, .nilFunc, .nilFunc, .nilFunc, .nilFunc, .nilFunc, .nilFunc, .nilFunc])] := Hold.newB H2 e3 b3 c3
  clear H2
  clear e3 b3 c3
  have b4 : B w3 g5 142 ([.nilFunc, .nilFunc, .nilFunc, .nilFunc, .nilFunc, .nilFunc, .nilFunc, .nilFunc, .nilFunc]) := Hold.blk H3 9 rfl
  refine ef0 (xst (vs := [.nilFunc, .func (.func 53) [.pointer (some ⟨ge, 0, none⟩)].toArray [].toArray, .func (.func 54) [.pointer (some ⟨ge, 0, none⟩)].toArray [].toArray, .func (.func 55) [.pointer (some ⟨ge, 0, none⟩)].toArray [].toArray, .func (.func 56) [.pointer (some ⟨ge, 0, none⟩)].toArray [].toArray, .func (.func 57) [.pointer (some ⟨ge, 0, none⟩)].toArray [].toArray, .func (.func 58) [.pointer (some ⟨ge, 0, none⟩)].toArray [].toArray, .func (.func 59) [.pointer (some ⟨ge, 0, none⟩)].toArray [].toArray, .func (.func 60) [.pointer (some ⟨ge, 0, none⟩)].toArray [].toArray]) ti142 rfl rfl rfl b4 rfl (Nat.le_of_ble_eq_true rfl) (one_all rfl)) ?_
  rintro w5 ⟨-, b5, c5⟩
  have H4 : Hold w F w5 [rB ge 60 ((eC s b gp gw gd tv qn actv usd opn gl gk)), rPl gp (logs s b + s * b) rdf, rR kE 115 tv tab, rMW gw (wk.map kfP), rMW gd (du.map kfP), rPool 2 pl, rB gl 2 ([.int .i64 (-1)]), rB g3 29 ([.int .i64 2, .string nm, .string (⟨#[]⟩ : ByteArray), .int .i64 0]), rB g4 42 ([.int .i64 0, .string ⟨#[]⟩, .slice none 0 0, .int .i64 0, .int .i64 0, .int .i64 0, .int .i64 0, .int .i64 0, .int .i64 0]), rB g5 142 ([.nilFunc, .func (.func 53) [.pointer (some ⟨ge, 0, none⟩)].toArray [].toArray, .func (.func 54) [.pointer (some ⟨ge, 0, none⟩)].toArray [].toArray, .func (.func 55) [.pointer (some ⟨ge, 0, none⟩)].toArray [].toArray, .func (.func 56) [.pointer (some ⟨ge, 0, none⟩)].toArray [].toArray, .func (.func 57) [.pointer (some ⟨ge, 0, none⟩)].toArray [].toArray, .func (.func 58) [.pointer (some ⟨ge, 0, none⟩)].toArray [].toArray, .func (.func 59) [.pointer (some ⟨ge, 0, none⟩)].toArray [].toArray, .func (.func 60) [.pointer (some ⟨ge, 0, none⟩)].toArray [].toArray])] := Hold.setB H3 9 rfl b5 c5 rfl
  clear H3
  clear b5 c5
  refine re (sq (sq ?_))
  refine gen (fun ρ => ρ 0 = .pointer (some ⟨ge, 0, none⟩) ∧ ρ 3 = .pointer (some ⟨g3, 0, none⟩) ∧ ρ 4 = .pointer (some ⟨g4, 0, none⟩) ∧ ρ 5 = .pointer (some ⟨g5, 0, none⟩) ∧ True) ⟨rfl, rfl, rfl, rfl, trivial⟩ ?_
  rintro ρ ⟨z0, z3, z4, z5, -⟩
  have b6 : B w5 g3 29 ([.int .i64 2, .string nm, .string (⟨#[]⟩ : ByteArray), .int .i64 0]) := Hold.blk H4 7 rfl
  refine rg (r (fa Tryz.underlying29 rfl ti2 rfl z3) (r (ldb Tryz.underlying2 rfl rfl b6 rfl) (r (Rn.cast (v' := .bool false) (bi rfl rfl rfl) rfl) (r (Rn.cast (v' := .bool false) (mv rfl) rfl) (gy rfl rfl rfl (r (fa Tryz.underlying29 rfl ti2 rfl z3) (gy rfl rfl rfl (r (ldb Tryz.underlying2 rfl rfl b6 rfl) (gy rfl rfl rfl (r (Rn.cast (v' := .bool false) (bi rfl rfl rfl) rfl) (r (Rn.cast (v' := .bool false) (pk rfl rfl) rfl) (re (cf rfl (sk (sq (rg (r (fa Tryz.underlying29 rfl ti2 rfl z3) (r (ldb Tryz.underlying2 rfl rfl b6 rfl) (r (Rn.cast (v' := .bool true) (bi rfl rfl rfl) rfl) (r (sa rfl) (re (sq (sq ?_)))))))))))))))))))))))
  refine gen (fun ρ => ρ 0 = .pointer (some ⟨ge, 0, none⟩) ∧ ρ 3 = .pointer (some ⟨g3, 0, none⟩) ∧ ρ 4 = .pointer (some ⟨g4, 0, none⟩) ∧ ρ 5 = .pointer (some ⟨g5, 0, none⟩) ∧ ρ 6 = .bool true ∧ True) ⟨z0, z3, z4, z5, rfl, trivial⟩ ?_
  rintro ρ ⟨z0, z3, z4, z5, z6, -⟩
  refine rg (r (mv z6) (r (Rn.cast (v' := .bool false) (nt rfl) rfl) (r (Rn.cast (v' := .bool false) (mv rfl) rfl) (gn rfl rfl rfl (gn rfl rfl rfl (gn rfl rfl rfl (r (Rn.cast (v' := .bool false) (pk rfl rfl) rfl) (r (Rn.cast (v' := .bool false) (mv rfl) rfl) (gy rfl rfl rfl (r (fa Tryz.underlying29 rfl ti2 rfl z3) (gy rfl rfl rfl (r (ldb Tryz.underlying2 rfl rfl b6 rfl) (gy rfl rfl rfl (r (Rn.cast (v' := .bool true) (bi rfl rfl rfl) rfl) (gy rfl rfl rfl (r (Rn.cast (v' := .bool true) (mv rfl) rfl) (gy rfl rfl rfl (r (fa Tryz.underlying29 rfl ti9 rfl z3) (gy rfl rfl rfl (r (ldb Tryz.underlying9 rfl rfl b6 rfl) (gy rfl rfl rfl (r (Rn.cast (v' := .bool false) (sne rfl rfl) (congrArg Value.bool (by simp))) (gy rfl rfl rfl (r (Rn.cast (v' := .bool false) (pk rfl rfl) rfl) (r (Rn.cast (v' := .bool false) (pk rfl rfl) rfl) (r (Rn.cast (v' := .bool false) (mv rfl) rfl) (gy rfl rfl rfl (r (fa Tryz.underlying29 rfl ti2 rfl z3) (gy rfl rfl rfl (r (ldb Tryz.underlying2 rfl rfl b6 rfl) (gy rfl rfl rfl (r (Rn.cast (v' := .bool true) (bi rfl rfl rfl) rfl) (gy rfl rfl rfl (r (Rn.cast (v' := .bool true) (mv rfl) rfl) (gy rfl rfl rfl (r (fa Tryz.underlying29 rfl ti2 rfl z3) (gy rfl rfl rfl (r (ldb Tryz.underlying2 rfl rfl b6 rfl) (gy rfl rfl rfl (r (Rn.cast (v' := .bool false) (bi rfl rfl rfl) rfl) (gy rfl rfl rfl (r (Rn.cast (v' := .bool false) (pk rfl rfl) rfl) (r (Rn.cast (v' := .bool false) (pk rfl rfl) rfl) (re (cf rfl (sk (sq (sq ?_))))))))))))))))))))))))))))))))))))))))))))))))
  refine gen (fun ρ => ρ 0 = .pointer (some ⟨ge, 0, none⟩) ∧ ρ 3 = .pointer (some ⟨g3, 0, none⟩) ∧ ρ 4 = .pointer (some ⟨g4, 0, none⟩) ∧ ρ 5 = .pointer (some ⟨g5, 0, none⟩) ∧ ρ 6 = .bool true ∧ True) ⟨z0, z3, z4, z5, z6, trivial⟩ ?_
  rintro ρ ⟨z0, z3, z4, z5, z6, -⟩
  refine rg (r (Rn.cast (v' := .bool true) (mv z6) rfl) (r (Rn.cast (v' := .bool true) (mv rfl) rfl) (gy rfl rfl rfl (r (fa Tryz.underlying29 rfl ti9 rfl z3) (gy rfl rfl rfl (r (ldb Tryz.underlying9 rfl rfl b6 rfl) (gy rfl rfl rfl (cl go61 (impl_ValidName (by omega)) (ac rfl an) ?_))))))))
  rintro r wv ⟨er, cv9⟩
  rw [decide_eq_true hnm] at er
  subst er
  have H5 : Hold w F wv [rB ge 60 ((eC s b gp gw gd tv qn actv usd opn gl gk)), rPl gp (logs s b + s * b) rdf, rR kE 115 tv tab, rMW gw (wk.map kfP), rMW gd (du.map kfP), rPool 2 pl, rB gl 2 ([.int .i64 (-1)]), rB g3 29 ([.int .i64 2, .string nm, .string (⟨#[]⟩ : ByteArray), .int .i64 0]), rB g4 42 ([.int .i64 0, .string ⟨#[]⟩, .slice none 0 0, .int .i64 0, .int .i64 0, .int .i64 0, .int .i64 0, .int .i64 0, .int .i64 0]), rB g5 142 ([.nilFunc, .func (.func 53) [.pointer (some ⟨ge, 0, none⟩)].toArray [].toArray, .func (.func 54) [.pointer (some ⟨ge, 0, none⟩)].toArray [].toArray, .func (.func 55) [.pointer (some ⟨ge, 0, none⟩)].toArray [].toArray, .func (.func 56) [.pointer (some ⟨ge, 0, none⟩)].toArray [].toArray, .func (.func 57) [.pointer (some ⟨ge, 0, none⟩)].toArray [].toArray, .func (.func 58) [.pointer (some ⟨ge, 0, none⟩)].toArray [].toArray, .func (.func 59) [.pointer (some ⟨ge, 0, none⟩)].toArray [].toArray, .func (.func 60) [.pointer (some ⟨ge, 0, none⟩)].toArray [].toArray])] := Hold.t H4 cv9
  clear H4
  clear cv9
  refine gy rfl rfl rfl (r (Rn.cast (v' := .bool false) (nt rfl) rfl) (r (Rn.cast (v' := .bool false) (pk rfl rfl) rfl) (re (cf rfl (sk (sq ?_))))))
  refine sq ?_
  refine rde mixed ?_
  intro w8 c8
  have H6 : Hold w F w8 [rB ge 60 ((eC s b gp gw gd tv qn actv usd opn gl gk)), rPl gp (logs s b + s * b) rdf, rR kE 115 tv tab, rMW gw (wk.map kfP), rMW gd (du.map kfP), rPool 2 pl, rB gl 2 ([.int .i64 (-1)]), rB g3 29 ([.int .i64 2, .string nm, .string (⟨#[]⟩ : ByteArray), .int .i64 0]), rB g4 42 ([.int .i64 0, .string ⟨#[]⟩, .slice none 0 0, .int .i64 0, .int .i64 0, .int .i64 0, .int .i64 0, .int .i64 0, .int .i64 0]), rB g5 142 ([.nilFunc, .func (.func 53) [.pointer (some ⟨ge, 0, none⟩)].toArray [].toArray, .func (.func 54) [.pointer (some ⟨ge, 0, none⟩)].toArray [].toArray, .func (.func 55) [.pointer (some ⟨ge, 0, none⟩)].toArray [].toArray, .func (.func 56) [.pointer (some ⟨ge, 0, none⟩)].toArray [].toArray, .func (.func 57) [.pointer (some ⟨ge, 0, none⟩)].toArray [].toArray, .func (.func 58) [.pointer (some ⟨ge, 0, none⟩)].toArray [].toArray, .func (.func 59) [.pointer (some ⟨ge, 0, none⟩)].toArray [].toArray, .func (.func 60) [.pointer (some ⟨ge, 0, none⟩)].toArray [].toArray])] := Hold.t H5 c8
  clear H5
  clear c8
  have H9d0 : Hold w8 [] w8 [] := Hold.start w8
  refine ⟨fun w' => Ch [] w8 w', Ch.refl _ _, ?_⟩
  have b10 : B w8 ge 60 ((eC s b gp gw gd tv qn actv usd opn gl gk)) := Hold.blk H6 0 rfl
  have b11 : B w8 g3 29 ([.int .i64 2, .string nm, .string (⟨#[]⟩ : ByteArray), .int .i64 0]) := Hold.blk H6 7 rfl
  have b12 : MpW w8 gw (wk.map kfP) := Hold.mpw H6 3 rfl
  refine edt 0 rfl (by kernel_rfl) (fun w' hS => mv z0) (edt 1 rfl (by kernel_rfl) (fun w' hS => nck rfl) (edt 2 rfl (by kernel_rfl) (fun w' hS => fa Tryz.underlying60 rfl ti56 rfl rfl) (edt 3 rfl (by kernel_rfl) (fun w' hS => fa Tryz.underlying56 rfl ti54 rfl rfl) (edt 4 rfl (by kernel_rfl) (fun w' hS => fa Tryz.underlying54 rfl ti52 rfl rfl) (edt 5 rfl (by kernel_rfl) (fun w' hS => ldb Tryz.underlying52 rfl rfl (hS.b0 b10) rfl) (edt 6 rfl (by kernel_rfl) (fun w' hS => fa Tryz.underlying29 rfl ti9 rfl z3) (edt 7 rfl (by kernel_rfl) (fun w' hS => ldb Tryz.underlying9 rfl rfl (hS.b0 b11) rfl) (edt 8 rfl (by kernel_rfl) (fun w' hS => Rn.cast (v' := .tuple #[.agg #[.int .i64 0, .string (⟨#[]⟩ : ByteArray), .int .i64 0, .slice none 0 0], .bool false]) (lkps Tryz.underlying52 Tryz.underlying9 ti91 rfl rfl (MpW.s (MpW.t hS b12))) (by rw [look_kf, hfk]; rfl)) (edt 9 rfl (by kernel_rfl) (fun w' hS => mv rfl) (edt 10 rfl (by kernel_rfl) (fun w' hS => xt rfl rfl) (edt 11 rfl (by kernel_rfl) (fun w' hS => xt rfl rfl) (ed1 12 (by kernel_rfl) <| euf rfl (xal ti91) ?_))))))))))))
  rintro _ w13 ⟨g7, e13, rfl, -, b13, c13⟩
  have H7d : Hold w8 [] w13 [rB g7 91 ([.int .i64 0, .string ⟨#[]⟩, .int .i64 0, .slice none 0 0])] := Hold.newB H9d0 e13 b13 c13
  clear H9d0
  clear e13 b13 c13
  refine ⟨.inr (Hold.ch H7d), ?_⟩
  have b14 : B w13 g7 91 ([.int .i64 0, .string ⟨#[]⟩, .int .i64 0, .slice none 0 0]) := Hold.blk H7d 0 rfl
  refine ed1 13 (by kernel_rfl) <| euf0 rfl (xst (vs := [.int .i64 0, .string (⟨#[]⟩ : ByteArray), .int .i64 0, .slice none 0 0]) ti91 rfl rfl rfl b14 rfl (Nat.le_of_ble_eq_true rfl) (one_all rfl)) ?_
  rintro w15 ⟨-, b15, c15⟩
  have H8d : Hold w8 [] w15 [rB g7 91 ([.int .i64 0, .string (⟨#[]⟩ : ByteArray), .int .i64 0, .slice none 0 0])] := Hold.setB H7d 0 rfl b15 c15 rfl
  clear H7d
  clear b15 c15
  refine ⟨.inr (Hold.ch H8d), ?_⟩
  have H9 : Hold w F w15 [rB ge 60 ((eC s b gp gw gd tv qn actv usd opn gl gk)), rPl gp (logs s b + s * b) rdf, rR kE 115 tv tab, rMW gw (wk.map kfP), rMW gd (du.map kfP), rPool 2 pl, rB gl 2 ([.int .i64 (-1)]), rB g3 29 ([.int .i64 2, .string nm, .string (⟨#[]⟩ : ByteArray), .int .i64 0]), rB g4 42 ([.int .i64 0, .string ⟨#[]⟩, .slice none 0 0, .int .i64 0, .int .i64 0, .int .i64 0, .int .i64 0, .int .i64 0, .int .i64 0]), rB g5 142 ([.nilFunc, .func (.func 53) [.pointer (some ⟨ge, 0, none⟩)].toArray [].toArray, .func (.func 54) [.pointer (some ⟨ge, 0, none⟩)].toArray [].toArray, .func (.func 55) [.pointer (some ⟨ge, 0, none⟩)].toArray [].toArray, .func (.func 56) [.pointer (some ⟨ge, 0, none⟩)].toArray [].toArray, .func (.func 57) [.pointer (some ⟨ge, 0, none⟩)].toArray [].toArray, .func (.func 58) [.pointer (some ⟨ge, 0, none⟩)].toArray [].toArray, .func (.func 59) [.pointer (some ⟨ge, 0, none⟩)].toArray [].toArray, .func (.func 60) [.pointer (some ⟨ge, 0, none⟩)].toArray [].toArray]), rB g7 91 ([.int .i64 0, .string (⟨#[]⟩ : ByteArray), .int .i64 0, .slice none 0 0])] := Hold.news H6 H8d
  clear H8d H6
  refine ed1 14 (by kernel_rfl) <| eur rfl (sa rfl) (.inl (by kernel_rfl)) ?_
  refine edd (by kernel_rfl) ?_
  refine sq ?_
  refine gen (fun ρ => ρ 3 = .pointer (some ⟨g3, 0, none⟩) ∧ ρ 4 = .pointer (some ⟨g4, 0, none⟩) ∧ ρ 5 = .pointer (some ⟨g5, 0, none⟩) ∧ ρ 6 = .bool true ∧ ρ 8 = .bool false ∧ True) ⟨z3, z4, z5, z6, rfl, trivial⟩ ?_
  rintro ρ ⟨z3, z4, z5, z6, z8, -⟩
  have b16 : B w15 g3 29 ([.int .i64 2, .string nm, .string (⟨#[]⟩ : ByteArray), .int .i64 0]) := Hold.blk H9 7 rfl
  refine rg (r (Rn.cast (v' := .bool true) (mv z6) rfl) (r (Rn.cast (v' := .bool true) (mv rfl) rfl) (gy rfl rfl rfl (r (fa Tryz.underlying29 rfl ti2 rfl z3) (gy rfl rfl rfl (r (ldb Tryz.underlying2 rfl rfl b16 rfl) (gy rfl rfl rfl (r (Rn.cast (v' := .bool true) (bi rfl rfl rfl) rfl) (r (Rn.cast (v' := .bool true) (pk rfl rfl) rfl) (r (Rn.cast (v' := .bool true) (mv rfl) rfl) (gy rfl rfl rfl (r (mv z8) (gy rfl rfl rfl (r (Rn.cast (v' := .bool true) (nt rfl) rfl) (r (Rn.cast (v' := .bool true) (pk rfl rfl) rfl) (re (ct rfl (sq ?_))))))))))))))))))
  refine gen (fun ρ => ρ 3 = .pointer (some ⟨g3, 0, none⟩) ∧ ρ 4 = .pointer (some ⟨g4, 0, none⟩) ∧ ρ 5 = .pointer (some ⟨g5, 0, none⟩) ∧ True) ⟨z3, z4, z5, trivial⟩ ?_
  rintro ρ ⟨z3, z4, z5, -⟩
  have b17 : B w15 g4 42 ([.int .i64 0, .string ⟨#[]⟩, .slice none 0 0, .int .i64 0, .int .i64 0, .int .i64 0, .int .i64 0, .int .i64 0, .int .i64 0]) := Hold.blk H9 8 rfl
  refine rg (r (bd (r := [.int .i64 22, .string ⟨#[]⟩, .slice none 0 0, .int .i64 0, .int .i64 0, .int .i64 0, .int .i64 0, .int .i64 0, .int .i64 0]) ti42 pl42 (pc rfl (cel1 rfl) pn) rfl) (ef0 (xst (vs := [.int .i64 22, .string ⟨#[]⟩, .slice none 0 0, .int .i64 0, .int .i64 0, .int .i64 0, .int .i64 0, .int .i64 0, .int .i64 0]) ti42 z4 rfl rfl b17 rfl (Nat.le_of_ble_eq_true rfl) (one_all rfl)) ?_))
  rintro w18 ⟨-, b18, c18⟩
  have H10 : Hold w F w18 [rB ge 60 ((eC s b gp gw gd tv qn actv usd opn gl gk)), rPl gp (logs s b + s * b) rdf, rR kE 115 tv tab, rMW gw (wk.map kfP), rMW gd (du.map kfP), rPool 2 pl, rB gl 2 ([.int .i64 (-1)]), rB g3 29 ([.int .i64 2, .string nm, .string (⟨#[]⟩ : ByteArray), .int .i64 0]), rB g4 42 ([.int .i64 22, .string ⟨#[]⟩, .slice none 0 0, .int .i64 0, .int .i64 0, .int .i64 0, .int .i64 0, .int .i64 0, .int .i64 0]), rB g5 142 ([.nilFunc, .func (.func 53) [.pointer (some ⟨ge, 0, none⟩)].toArray [].toArray, .func (.func 54) [.pointer (some ⟨ge, 0, none⟩)].toArray [].toArray, .func (.func 55) [.pointer (some ⟨ge, 0, none⟩)].toArray [].toArray, .func (.func 56) [.pointer (some ⟨ge, 0, none⟩)].toArray [].toArray, .func (.func 57) [.pointer (some ⟨ge, 0, none⟩)].toArray [].toArray, .func (.func 58) [.pointer (some ⟨ge, 0, none⟩)].toArray [].toArray, .func (.func 59) [.pointer (some ⟨ge, 0, none⟩)].toArray [].toArray, .func (.func 60) [.pointer (some ⟨ge, 0, none⟩)].toArray [].toArray]), rB g7 91 ([.int .i64 0, .string (⟨#[]⟩ : ByteArray), .int .i64 0, .slice none 0 0])] := Hold.setB H9 8 rfl b18 c18 rfl
  clear H9
  clear b18 c18
  refine re (rt ?_)
  have b19 : B w18 g4 42 ([.int .i64 22, .string ⟨#[]⟩, .slice none 0 0, .int .i64 0, .int .i64 0, .int .i64 0, .int .i64 0, .int .i64 0, .int .i64 0]) := Hold.blk H10 8 rfl
  have H11 : Hold w F w18 [rB ge 60 ((eC s b gp gw gd tv qn actv usd opn gl gk)), rPl gp (logs s b + s * b) rdf, rR kE 115 tv tab, rMW gw (wk.map kfP), rMW gd (du.map kfP), rPool 2 pl, rB gl 2 ([.int .i64 (-1)])] := (show Hold w F w18 ([rB ge 60 ((eC s b gp gw gd tv qn actv usd opn gl gk)), rPl gp (logs s b + s * b) rdf, rR kE 115 tv tab, rMW gw (wk.map kfP), rMW gd (du.map kfP), rPool 2 pl, rB gl 2 ([.int .i64 (-1)])] ++ [rB g3 29 ([.int .i64 2, .string nm, .string (⟨#[]⟩ : ByteArray), .int .i64 0]), rB g4 42 ([.int .i64 22, .string ⟨#[]⟩, .slice none 0 0, .int .i64 0, .int .i64 0, .int .i64 0, .int .i64 0, .int .i64 0, .int .i64 0]), rB g5 142 ([.nilFunc, .func (.func 53) [.pointer (some ⟨ge, 0, none⟩)].toArray [].toArray, .func (.func 54) [.pointer (some ⟨ge, 0, none⟩)].toArray [].toArray, .func (.func 55) [.pointer (some ⟨ge, 0, none⟩)].toArray [].toArray, .func (.func 56) [.pointer (some ⟨ge, 0, none⟩)].toArray [].toArray, .func (.func 57) [.pointer (some ⟨ge, 0, none⟩)].toArray [].toArray, .func (.func 58) [.pointer (some ⟨ge, 0, none⟩)].toArray [].toArray, .func (.func 59) [.pointer (some ⟨ge, 0, none⟩)].toArray [].toArray, .func (.func 60) [.pointer (some ⟨ge, 0, none⟩)].toArray [].toArray]), rB g7 91 ([.int .i64 0, .string (⟨#[]⟩ : ByteArray), .int .i64 0, .slice none 0 0])]) from Hold.re H10 [0, 1, 2, 3, 4, 5, 6, 7, 8, 9, 10] (by kernel_rfl) (by rfl)).drop
  clear H10
  exact finc  (cs := [.int .i64 22, .string ⟨#[]⟩, .slice none 0 0, .int .i64 0, .int .i64 0, .int .i64 0, .int .i64 0, .int .i64 0, .int .i64 0]) Tryz.results34 Tryz.underlying42 rfl ti42 z4 b19 rfl  ⟨rfl, H11⟩
end Go.Proofs.YtanfhikfeabidaaGreatDoor

namespace Go.Proofs.YtanfhikfeabidaaGreatDoor
open Go Go.Eng
set_option maxRecDepth 100000
set_option maxHeartbeats 4000000
set_option linter.unusedVariables false
set_option linter.unusedSimpArgs false
/-- What a source panics with when it has no more bytes. -/
abbrev ranOut : PanicEntry := { v := .iface 180 (.agg #[]), recovered := false }
theorem rec_ret {w : World} {g : Nat} : Dfd Tryz.prog 100 [.pointer (some ⟨g, 0, none⟩)] .returning w (fun w' => Ch [] w w') := by
  refine Dfd.of (Φ := fun r w' => Ch [] w w') (recS (v := .nilIface) (u1 := .returning) Tryz.func100 rfl Tryz.ntmps100 (by rfl) (by rfl) rfl ?_) rfl (fun _ _ h => h)
  have H0 : Hold w [] w [] := Hold.start w
  refine bl (sq (rg (r (inn Tryz.underlying20 rfl) (re (ct rfl (rg (r (sa rfl) (re (be ?_)))))))))
  exact fin0 Tryz.results100 (Hold.ch H0)
theorem rec_pan {w : World} {g : Nat} {T : TypeId} {b : Bool} (hB : B w g T [.bool b]) : Dfd Tryz.prog 100 [.pointer (some ⟨g, 0, none⟩)] (.panicking [ranOut]) w (fun w' => B w' g T [.bool false] ∧ Ch [g] w w') := by
  refine Dfd.of (Φ := fun r w' => B w' g T [.bool false] ∧ Ch [g] w w') (recS (v := .iface 180 (.agg #[])) (u1 := .panicking [{ v := .iface 180 (.agg #[]), recovered := true }]) Tryz.func100 rfl Tryz.ntmps100 (by rfl) (by rfl) rfl ?_) rfl (fun _ _ h => h)
  have H0 : Hold w [g] w [rB g T [.bool b]] := Hold.begin (Hs.one (r := rB g T [.bool b]) ⟨rfl, hB⟩) (by simp)
  refine bl (sq (rg (r (ien Tryz.underlying20 rfl) (re (cf rfl (sq (rg (r (tas Tryz.underlying180 rfl rfl) (r (xt rfl rfl) (r (xt rfl rfl) (re (ct rfl (sq (rg (ef (xal ti180) ?_)))))))))))))))
  rintro _ w1 ⟨g2, e1, rfl, -, b1, c1⟩
  have H1 : Hold w [g] w1 [rB g T ([.bool b]), rB g2 180 ([])] := Hold.newB H0 e1 b1 c1
  clear H0
  clear e1 b1 c1
  have b2 : B w1 g2 180 ([]) := Hold.blk H1 1 rfl
  refine ef0 (xst (vs := []) ti180 rfl rfl rfl b2 rfl (Nat.le_of_ble_eq_true rfl) (one_all rfl)) ?_
  rintro w3 ⟨-, b3, c3⟩
  have H2 : Hold w [g] w3 [rB g T ([.bool b]), rB g2 180 ([])] := Hold.setB H1 1 rfl b3 c3 rfl
  clear H1
  clear b3 c3
  have b4 : B w3 g T ([.bool b]) := Hold.blk H2 0 rfl
  refine re (rg (ef0 (xst (vs := [.bool false]) ti4 rfl rfl (cel1 rfl) b4 rfl (Nat.le_of_ble_eq_true rfl) (one_all rfl)) ?_))
  rintro w5 ⟨-, b5, c5⟩
  have H3 : Hold w [g] w5 [rB g T ([.bool false]), rB g2 180 ([])] := Hold.setB H2 0 rfl b5 c5 rfl
  clear H2
  clear b5 c5
  refine re (be ?_)
  have H4 : Hold w [g] w5 [rB g T ([.bool false])] := (show Hold w [g] w5 ([rB g T ([.bool false])] ++ [rB g2 180 ([])]) from Hold.re H3 [0, 1] (by kernel_rfl) (by rfl)).drop
  clear H3
  exact fin0 Tryz.results100 ⟨Hold.blk H4 0 rfl, Hold.ch H4⟩
theorem reading {w : World} {F : List Nat} {v : Value} {A Aok Abad : Rs} {okp badp : Prop} {fc : FuncId} {cap : List Value} {G : List Nat} {xs : List Int} (hx : u8.R w G v xs) (hd : ∀ k, k ∈ G → k ∉ F) (hg : Goes Tryz.prog fc) (hs : Hs w [A] F) (nd : F.Nodup)
    (hf : ∀ w1 gs F1, Ch F w w1 → Hs w1 [rB gs 152 [v], A] F1 → F1.Nodup → (∀ k, k ∈ F1 → k ∈ F ∨ w.heap.size ≤ k) → RetP Tryz.prog fc ([Value.pointer (some ⟨gs, 0, none⟩)] ++ cap).toArray w1 (fun r w' => okp ∧ Hold w1 F1 w' [Aok]) (fun c w' => badp ∧ c = [ranOut] ∧ Hold w1 F1 w' [Abad])) :
    Ret Tryz.prog 63 #[v, .func (.func fc) #[] cap.toArray] w (fun r w' => (r = .bool true ∧ okp ∧ Hold w F w' [Aok]) ∨ (r = .bool false ∧ badp ∧ Hold w F w' [Abad])) := by
  refine enterD Tryz.func63 rfl Tryz.ntmps63 (by rfl) (by rfl) ?_
  have H0 : Hold w F w [A] := Hold.begin hs nd
  refine sq (rg (ef (xal ti4) ?_))
  rintro _ w1 ⟨g4, e1, rfl, -, b1, c1⟩
  have H1 : Hold w F w1 [A, rB g4 4 ([.bool false])] := Hold.newB H0 e1 b1 c1
  clear H0
  clear e1 b1 c1
  refine re (sq (rg (r (mf (vs := []) (cs := [.pointer (some ⟨g4, 0, none⟩)]) an (ac rfl an)) (dfr (f := 100) (cap := [.pointer (some ⟨g4, 0, none⟩)]) rfl (re (sq (rg (r (mv rfl) (r (mv rfl) (r (bd (r := [v]) ti152 pl152 (pc rfl (cel1 ((hx.tt (Hold.ch H1) hd)).oneCell) pn) rfl) (ef (xbx (t := 152) rfl rfl) ?_)))))))))))
  rintro _ w2 ⟨g9, e2, rfl, -, b2, c2⟩
  have H2 : Hold w F w2 [A, rB g4 4 ([.bool false]), rB g9 152 ([v])] := Hold.newB H1 e2 b2 c2
  clear H1
  clear e2 b2 c2
  have H3 : Hold w F w2 [rB g9 152 ([v]), A, rB g4 4 ([.bool false])] := Hold.re H2 [2, 0, 1] (by kernel_rfl) (by rfl)
  clear H2
  obtain ⟨F3, hF3, n3, s3, K3⟩ := Hold.front (Γ := [rB g9 152 ([v]), A]) (Δ := [rB g4 4 ([.bool false])]) H3
  refine clvp rfl hg (ac rfl an) (hf _ g9 F3 (Hold.ch H3) hF3 n3 s3) (fun c w2 a hp ha => ?_) ?_
  · obtain ⟨hb, rfl, Hb⟩ := hp
    have H4 : Hold w F w2 [Abad, rB g4 4 ([.bool false])] := Hold.call K3 Hb
    clear H3
    have b4 : B w2 g4 4 ([.bool false]) := Hold.blk H4 1 rfl
    refine finDp go100 (rec_pan b4) (fun w9 h9 => ?_) ha
    obtain ⟨b9, c9⟩ := h9
    have H5 : Hold w F w9 [Abad, rB g4 4 ([.bool false])] := Hold.setB H4 1 rfl b9 c9 rfl
    clear H4
    have b5 : B w9 g4 4 ([.bool false]) := Hold.blk H5 1 rfl
    have H6 : Hold w F w9 [Abad] := (show Hold w F w9 ([Abad] ++ [rB g4 4 ([.bool false])]) from Hold.re H5 [0, 1] (by kernel_rfl) (by rfl)).drop
    clear H5
    exact fincs (v := .bool false) Tryz.results63 Tryz.underlying4 rfl rfl b5 rfl (show _ ∨ _ from .inr ⟨rfl, hb, H6⟩)
  rintro r wf ⟨hok, Hf⟩
  have H4 : Hold w F wf [Aok, rB g4 4 ([.bool false])] := Hold.call K3 Hf
  clear H3
  clear K3 hF3 n3 s3
  clear Hf
  have b4 : B wf g4 4 ([.bool false]) := Hold.blk H4 1 rfl
  refine re (sq (rg (ef0 (xst (vs := [.bool true]) ti4 rfl rfl (cel1 rfl) b4 rfl (Nat.le_of_ble_eq_true rfl) (one_all rfl)) ?_)))
  rintro w5 ⟨-, b5, c5⟩
  have H5 : Hold w F w5 [Aok, rB g4 4 ([.bool true])] := Hold.setB H4 1 rfl b5 c5 rfl
  clear H4
  clear b5 c5
  refine re (rtd ?_)
  have b6 : B w5 g4 4 ([.bool true]) := Hold.blk H5 1 rfl
  refine finD go100 rec_ret (fun w9 c9 => ?_)
  have H6 : Hold w F w9 [Aok, rB g4 4 ([.bool true])] := Hold.t H5 c9
  clear H5
  have b7 : B w9 g4 4 ([.bool true]) := Hold.blk H6 1 rfl
  have H7 : Hold w F w9 [Aok] := (show Hold w F w9 ([Aok] ++ [rB g4 4 ([.bool true])]) from Hold.re H6 [0, 1] (by kernel_rfl) (by rfl)).drop
  clear H6
  exact fincs (v := .bool true) Tryz.results63 Tryz.underlying4 rfl rfl b7 rfl (show _ ∨ _ from .inl ⟨rfl, hok, H7⟩)
end Go.Proofs.YtanfhikfeabidaaGreatDoor

namespace Go.Eng
set_option linter.unusedVariables false
set_option linter.unusedSimpArgs false
section
variable {P : Program} {n : Nat} {w : World}
/-- A deferred literal that begins with recover(), assigned, where nobody panics. -/
theorem recR {f : FuncId} {fn : Func} {id t t2 : Nat} {y : Code} {args : Array Value} {ty ty2 : TypeId} {pos pos2 : String} {af af2 : Array Edge} {ts : Array TypeId} {Φ : Value → World → Prop} (hf : P.funcs[f]? = some fn)
    (hb : fn.body = some (.seq (.region id #[⟨some t, .call ⟨.builtin .recover, #[], ts⟩, ty, pos, af, none⟩, ⟨some t2, .assign (.tmp t), ty2, pos2, af2, none⟩] false) y)) (hn : fn.ntmps = n)
    (hok : (Nat.blt t n && (Nat.blt t2 n && okc n y)) = true) (hs : Nat.ble args.size n = true) (h : S P n [.c y] (Fin P fn Φ) (upd (upd (ini args) t .nilIface) t2 .nilIface) [] w) :
    CallsD P f args .returning w (fun e u' w' => (∃ r, e = .returned r ∧ Φ r w') ∧ u' = .returning) := by
  simp only [Bool.and_eq_true] at hok
  refine callsD_of_wpS hf hb fun c₀ cs hu => ?_
  refine wpS_seq (wpS_region ?_)
  have hs' : args.size ≤ n := Nat.le_of_ble_eq_true hs
  have hsim : Sim n (ini args) [] { tmps := args ++ Array.replicate (fn.ntmps - args.size) undef, defers := [] } := by
    refine ⟨by simp [hn]; omega, rfl, fun t => ?_⟩
    simp only [ini, Array.getD_eq_getD_getElem?, Array.getElem?_append]
    split
    · rfl
    · rename_i hlt
      rw [Array.getElem?_eq_none (Nat.le_of_not_lt hlt)]
      simp only [Array.getElem?_replicate]
      split <;> rfl
  generalize ({ tmps := args ++ Array.replicate (fn.ntmps - args.size) undef, defers := [] } : Act) = a at hsim
  have hrun : ∀ (e : Operand → Value), (execOp e ⟨some t, .call ⟨.builtin .recover, #[], ts⟩, ty, pos, af, none⟩).run P w = .ok .recover w := fun e => by simp [execOp, resolve, invoke, builtin]
  have hsim1 := hsim.put (some t) (by simpa [okd] using hok.1) .nilIface
  have hsim2 := hsim1.put (some t2) (by simpa [okd] using hok.2.1) .nilIface
  have hrun2 : (execOp (a.put (some t) .nilIface).eval ⟨some t2, .assign (.tmp t), ty2, pos2, af2, none⟩).run P w = .ok (.value .nilIface) w := by
    rw [hsim1.eval]; simp [execOp, ev, updo, upd]
  have key : y.wpS P (bodyPostS P fn c₀ cs (fun e u' w' => (∃ r, e = .returned r ∧ Φ r w') ∧ u' = .returning)) ((a.put (some t) .nilIface).put (some t2) .nilIface) ({ c₀ with mode := .returning } :: cs) w := by
    refine wpS_of_wp (wp_mono (h (by simp [okk, hok.2.2]) _ hsim2) fun e a' w' he => ?_)
    cases e with
    | normal =>
      obtain ⟨h1, r, h2, r', h3, h4⟩ := he
      exact ⟨h1, .returning, rfl, r, h2, ⟨r', h3, h4⟩, rfl⟩
    | ret =>
      obtain ⟨h1, r, h2, r', h3, h4⟩ := he
      exact ⟨h1, .returning, rfl, r, h2, ⟨r', h3, h4⟩, rfl⟩
    | panic c => obtain ⟨_, r, h2, _⟩ := he; cases h2
    | outgrown => obtain ⟨r, h2, _⟩ := he; cases h2
    | exit id => exact he
    | goto l => exact he
  have hr2 : List.range 2 = [0, 1] := rfl
  simp only [List.size_toArray, List.length_cons, List.length_nil, Nat.zero_add, Nat.reduceAdd, hr2, wpOpsS, List.getElem?_toArray, List.getElem?_cons_zero, List.getElem?_cons_succ, Region.wanted, if_true, hrun]
  have hc : (c₀ : Frame) = { c₀ with mode := .returning } := by rw [← hu]
  rw [hc]
  simp only [recoverD, hrun2, Oper.upon]
  exact key
end
end Go.Eng
namespace Go.Proofs.YtanfhikfeabidaaGreatDoor
open Go Go.Eng
set_option maxRecDepth 100000
set_option maxHeartbeats 4000000
set_option linter.unusedVariables false
set_option linter.unusedSimpArgs false
/-- Answers, calls. -/
abbrev kAns : Kd (Int × ByteArray) := Kd.flat 9 (fun x => [.int .i64 x.1, .string x.2, .slice none 0 0, .int .i64 0, .int .i64 0, .int .i64 0, .int .i64 0, .int .i64 0, .int .i64 0]) (by decide) (fun _ => rfl) (fun x u hu => by simp at hu; rcases hu with rfl | rfl | rfl | rfl <;> rfl)
abbrev kCal : Kd (Int × ByteArray × ByteArray) := Kd.flat 4 (fun x => [.int .i64 x.1, .string x.2.1, .string x.2.2, .int .i64 0]) (by decide) (fun _ => rfl) (fun x u hu => by simp at hu; rcases hu with rfl | rfl | rfl | rfl <;> rfl)
theorem recC_ret {w : World} {g : Nat} : Dfd Tryz.prog 33 [.pointer (some ⟨g, 0, none⟩)] .returning w (fun w' => Ch [] w w') := by
  refine Dfd.of (Φ := fun r w' => Ch [] w w') (recR Tryz.func33 rfl Tryz.ntmps33 (by rfl) (by rfl) ?_) rfl (fun _ _ h => h)
  have H0 : Hold w [] w [] := Hold.start w
  refine sq (rg (r (mv rfl) (r (inne Tryz.underlying20 rfl) (re (cf rfl (sk ?_))))))
  exact fin0 Tryz.results33 (Hold.ch H0)
theorem Run_2 {w : World} {F : List Nat} {gr : Nat} {av : Value} {az : List (Int × ByteArray)} {c : Int} {d : ByteArray} (h : Hs w [rB gr 35 ([.int .i64 0, .bool false, av, .int .i64 0, .slice none 0 0, .slice none 0 0]), rR kAns 42 av az] F) (nd : F.Nodup) (la : az.length ≤ 2000) : Ret Tryz.prog 12 #[.agg #[.int .i64 c, .string d, .slice none 0 0, .int .i64 0, .int .i64 0, .int .i64 0, .int .i64 0, .int .i64 0, .int .i64 0], .pointer (some ⟨gr, 0, none⟩)] w (fun r w' => ∃ av', Hold w F w' [rB gr 35 ([.int .i64 0, .bool false, av', .int .i64 0, .slice none 0 0, .slice none 0 0]), rR kAns 42 av' (az ++ [(c, d)])]) := by
  refine enter Tryz.func12 rfl Tryz.ntmps12 (by rfl) (by rfl) ?_
  have H0 : Hold w F w [rB gr 35 ([.int .i64 0, .bool false, av, .int .i64 0, .slice none 0 0, .slice none 0 0]), rR kAns 42 av az] := Hold.begin h nd
  refine sq (rg (ef (xbx (t := 42) rfl rfl) ?_))
  rintro _ w1 ⟨g2, e1, rfl, -, b1, c1⟩
  have H1 : Hold w F w1 [rB gr 35 ([.int .i64 0, .bool false, av, .int .i64 0, .slice none 0 0, .slice none 0 0]), rR kAns 42 av az, rB g2 42 ([.int .i64 c, .string d, .slice none 0 0, .int .i64 0, .int .i64 0, .int .i64 0, .int .i64 0, .int .i64 0, .int .i64 0])] := Hold.newB H0 e1 b1 c1
  clear H0
  clear e1 b1 c1
  have b2 : B w1 gr 35 ([.int .i64 0, .bool false, av, .int .i64 0, .slice none 0 0, .slice none 0 0]) := Hold.blk H1 0 rfl
  have b3 : B w1 g2 42 ([.int .i64 c, .string d, .slice none 0 0, .int .i64 0, .int .i64 0, .int .i64 0, .int .i64 0, .int .i64 0, .int .i64 0]) := Hold.blk H1 2 rfl
  refine re (rg (r (fa Tryz.underlying35 rfl ti30 rfl rfl) (r (ldb Tryz.underlying30 rfl rfl b2 rfl) (r (lab [.int .i64 c, .string d, .slice none 0 0, .int .i64 0, .int .i64 0, .int .i64 0, .int .i64 0, .int .i64 0, .int .i64 0] Tryz.underlying42 rfl ti42 rfl b3 rfl rfl) (ef (xbs1 (cs := [.int .i64 c, .string d, .slice none 0 0, .int .i64 0, .int .i64 0, .int .i64 0, .int .i64 0, .int .i64 0, .int .i64 0]) Tryz.underlying30 ti42 rfl rfl rfl rfl rfl) ?_)))))
  rintro _ w4 ⟨g6, e4, rfl, -, b4, c4⟩
  have H2 : Hold w F w4 [rB gr 35 ([.int .i64 0, .bool false, av, .int .i64 0, .slice none 0 0, .slice none 0 0]), rR kAns 42 av az, rB g2 42 ([.int .i64 c, .string d, .slice none 0 0, .int .i64 0, .int .i64 0, .int .i64 0, .int .i64 0, .int .i64 0, .int .i64 0]), rB g6 42 ([.int .i64 c, .string d, .slice none 0 0, .int .i64 0, .int .i64 0, .int .i64 0, .int .i64 0, .int .i64 0, .int .i64 0])] := Hold.newB H1 e4 b4 c4
  clear H1
  clear e4 b4 c4
  have b6 : B w4 g6 42 ([.int .i64 c, .string d, .slice none 0 0, .int .i64 0, .int .i64 0, .int .i64 0, .int .i64 0, .int .i64 0, .int .i64 0]) := Hold.blk H2 3 rfl
  obtain ⟨F7, P7, n7, s7, K7⟩ := Hold.pick H2 1 rfl
  replace P7 : Kd.W kAns 42 w4 F7 av az := P7
  refine ef (xapb (ys := [(c, d)]) Tryz.underlying30 ti42 rfl rfl rfl P7 b6 (els_one (R := Kd.O kAns _) (show Kd.O kAns _ [] (c, d) _ from ⟨rfl, rfl⟩)) (nodup_nil n7) (by simp; omega)) ?_
  rintro v7_5 w5 ⟨F5, A5⟩
  have H3 : Hold w F w5 [rB gr 35 ([.int .i64 0, .bool false, av, .int .i64 0, .slice none 0 0, .slice none 0 0]), rR kAns 42 v7_5 (az ++ [(c, d)]), rB g2 42 ([.int .i64 c, .string d, .slice none 0 0, .int .i64 0, .int .i64 0, .int .i64 0, .int .i64 0, .int .i64 0, .int .i64 0]), rB g6 42 ([.int .i64 c, .string d, .slice none 0 0, .int .i64 0, .int .i64 0, .int .i64 0, .int .i64 0, .int .i64 0, .int .i64 0])] := Hold.apd K7 P7 A5 rfl
  clear H2
  clear A5 K7 P7 n7 s7
  have b8 : B w5 gr 35 ([.int .i64 0, .bool false, av, .int .i64 0, .slice none 0 0, .slice none 0 0]) := Hold.blk H3 0 rfl
  obtain ⟨_, R10⟩ : ∃ F, Kd.R kAns w5 F v7_5 (az ++ [(c, d)]) := Hold.row H3 1 rfl
  refine r (fa Tryz.underlying35 rfl ti30 rfl rfl) (ef0 (xst (vs := [v7_5]) ti30 rfl rfl (cel1 (R10).oneCell) b8 rfl (Nat.le_of_ble_eq_true rfl) (ones1 (R10).oneCell)) ?_)
  rintro w9 ⟨-, b9, c9⟩
  have H4 : Hold w F w9 [rB gr 35 ([.int .i64 0, .bool false, v7_5, .int .i64 0, .slice none 0 0, .slice none 0 0]), rR kAns 42 v7_5 (az ++ [(c, d)]), rB g2 42 ([.int .i64 c, .string d, .slice none 0 0, .int .i64 0, .int .i64 0, .int .i64 0, .int .i64 0, .int .i64 0, .int .i64 0]), rB g6 42 ([.int .i64 c, .string d, .slice none 0 0, .int .i64 0, .int .i64 0, .int .i64 0, .int .i64 0, .int .i64 0, .int .i64 0])] := Hold.setB H3 0 rfl b9 c9 rfl
  clear H3
  clear b9 c9
  refine re ?_
  have H5 : Hold w F w9 [rB gr 35 ([.int .i64 0, .bool false, v7_5, .int .i64 0, .slice none 0 0, .slice none 0 0]), rR kAns 42 v7_5 (az ++ [(c, d)])] := (show Hold w F w9 ([rB gr 35 ([.int .i64 0, .bool false, v7_5, .int .i64 0, .slice none 0 0, .slice none 0 0]), rR kAns 42 v7_5 (az ++ [(c, d)])] ++ [rB g2 42 ([.int .i64 c, .string d, .slice none 0 0, .int .i64 0, .int .i64 0, .int .i64 0, .int .i64 0, .int .i64 0, .int .i64 0]), rB g6 42 ([.int .i64 c, .string d, .slice none 0 0, .int .i64 0, .int .i64 0, .int .i64 0, .int .i64 0, .int .i64 0, .int .i64 0])]) from Hold.re H4 [0, 1, 2, 3] (by kernel_rfl) (by rfl)).drop
  clear H4
  exact fin0 Tryz.results12 ⟨_, H5⟩
/-- What an engine may be at. -/
structure St where
  gd : Nat
  tv : Value
  op : Int
  q : Int
  a : Int
  us : Int
  rdf : Int → List Int
  tab : List (Int × Bool)
  wk : List Kf
  du : List Kf
  pl : List (Value × List Int)
def enL (ge gp gw gl gk : Nat) (s b : Int) (z : St) : List Rs := [rB ge 60 ((eC s b gp gw z.gd z.tv z.q z.a z.us z.op gl gk)), rPl gp (logs s b + s * b) z.rdf, rR kE 115 z.tv z.tab, rMW gw (z.wk.map kfP), rMW z.gd (z.du.map kfP), rPool 2 z.pl, rB gl 2 ([.int .i64 (-1)])]
/-- An engine of which J holds. -/
def rEng (ge gp gw gl gk : Nat) (s b : Int) (J : St → Prop) : Rs := exR (fun z : St => rF (J z) (rL (enL ge gp gw gl gk s b z)))
theorem Hold.engI {w0 w : World} {F0 : List Nat} {Δ : List Rs} {ge gp gw gl gk : Nat} {s b : Int} {J : St → Prop} (z : St) (hJ : J z) (H : Hold w0 F0 w (enL ge gp gw gl gk s b z ++ Δ)) : Hold w0 F0 w (rEng ge gp gw gl gk s b J :: Δ) :=
  Hold.exi (r := fun z : St => rF (J z) (rL (enL ge gp gw gl gk s b z))) z (Hold.facti hJ (Hold.rLi H))
theorem Hs.engE {w : World} {F : List Nat} {ge gp gw gl gk : Nat} {s b : Int} {J : St → Prop} (h : Hs w [rEng ge gp gw gl gk s b J] F) : ∃ z, J z ∧ Hs w (enL ge gp gw gl gk s b z) F := by
  obtain ⟨z, hJ, h⟩ := (Hs.one' h : ∃ z, J z ∧ Hs w (enL ge gp gw gl gk s b z) F)
  exact ⟨z, hJ, h⟩
theorem eng_calls {w : World} {F G : List Nat} {ge gp gw gl gk gr : Nat} {s b : Int} {J : Nat → St → Prop} {A : Nat → Int × ByteArray} {C : List (Int × ByteArray × ByteArray)} {av cv : Value} (h : Hs w [rEng ge gp gw gl gk s b (J 0), rB gr 35 ([.int .i64 0, .bool false, av, .int .i64 0, .slice none 0 0, .slice none 0 0]), rR kAns 42 av ([])] F) (nd : F.Nodup) (hc : kCal.R w G cv C) (hd : ∀ k, k ∈ G → k ∉ F) (lc : C.length ≤ 1000)
    (hcall : ∀ (i : Nat) (hi : i < C.length) (w1 : World) (F1 : List Nat), Hs w1 [rEng ge gp gw gl gk s b (J i)] F1 → F1.Nodup → Ret Tryz.prog 34 #[.pointer (some ⟨ge, 0, none⟩), .agg #[.int .i64 C[i].1, .string C[i].2.1, .string C[i].2.2, .int .i64 0]] w1 (fun r w' => r = ansV (A i).1 (A i).2 ∧ Hold w1 F1 w' [rEng ge gp gw gl gk s b (J (i + 1))])) :
    Ret Tryz.prog 11 #[.pointer (some ⟨ge, 0, none⟩), cv, .func (.func 12) #[] [.pointer (some ⟨gr, 0, none⟩)].toArray] w (fun r w' => r = .bool false ∧ ∃ av', Hold w F w' [rEng ge gp gw gl gk s b (J C.length), rB gr 35 ([.int .i64 0, .bool false, av', .int .i64 0, .slice none 0 0, .slice none 0 0]), rR kAns 42 av' ((List.range C.length).map A)]) := by
  refine enterD Tryz.func11 rfl Tryz.ntmps11 (by rfl) (by rfl) ?_
  have H0 : Hold w F w [rEng ge gp gw gl gk s b (J 0), rB gr 35 ([.int .i64 0, .bool false, av, .int .i64 0, .slice none 0 0, .slice none 0 0]), rR kAns 42 av ([])] := Hold.begin h nd
  refine sq (rg (ef (xal ti4) ?_))
  rintro _ w1 ⟨g6, e1, rfl, -, b1, c1⟩
  have H1 : Hold w F w1 [rEng ge gp gw gl gk s b (J 0), rB gr 35 ([.int .i64 0, .bool false, av, .int .i64 0, .slice none 0 0, .slice none 0 0]), rR kAns 42 av ([]), rB g6 4 ([.bool false])] := Hold.newB H0 e1 b1 c1
  clear H0
  clear e1 b1 c1
  refine re (sq (rg (r (mf (vs := []) (cs := [.pointer (some ⟨g6, 0, none⟩)]) an (ac rfl an)) (dfr (f := 33) (cap := [.pointer (some ⟨g6, 0, none⟩)]) rfl (re (sq (sq (rg (r (mv rfl) (r (ln Tryz.underlying26 rfl ((hc.tt (Hold.ch H1) hd))) (r (mv rfl) (re (bl ?_)))))))))))))
  refine lp (α := Nat × Value) (fun (i, av2) ρ w' => ρ 0 = .pointer (some ⟨ge, 0, none⟩) ∧ ρ 2 = .func (.func 12) #[] [.pointer (some ⟨gr, 0, none⟩)].toArray ∧ ρ 6 = .pointer (some ⟨g6, 0, none⟩) ∧ ρ 10 = cv ∧ ρ 11 = .int .i64 (C.length : Int) ∧ ρ 12 = .int .i64 (i : Int) ∧ Hold w F w' [rEng ge gp gw gl gk s b (J i), rB gr 35 ([.int .i64 0, .bool false, av2, .int .i64 0, .slice none 0 0, .slice none 0 0]), rR kAns 42 av2 ((List.range i).map A), rB g6 4 ([.bool false])] ∧ i ≤ C.length) (fun (i, av2) => C.length - i) (0, av) ?_ ?_
  · exact ⟨rfl, rfl, rfl, rfl, rfl, rfl, H1, by omega⟩
  clear H1
  rintro ⟨i, av2⟩ ρ w502 ⟨y0, y2, y6, y10, y11, y12, H2, hi⟩
  refine sq (rg (r (bi y12 y11 rfl) (re (sq ?_))))
  refine cp rfl (fun hlt => ?_) (fun hlt => ?_)
  · have hi' : i < C.length := by omega
    refine sk (sq (bl (sq (rg ?_))))
    obtain ⟨c14_2, ad14_2, k14_2, e14_2, p14_2⟩ := Kd.R.place (hc.tt (Hold.ch H2) hd) i (hi')
    have q14_2 := flat_at p14_2
    refine r (ix (j := i) Tryz.underlying26 ti29 (y10.trans e14_2) y12 (hi')) (r (la [.int .i64 ((C[i]).1), .string ((C[i]).2.1), .string ((C[i]).2.2), .int .i64 0] Tryz.underlying29 rfl ti29 rfl rfl (fun m u h => (q14_2 m u h))) (ef (xal ti29) ?_))
    rintro _ w3 ⟨g8, e3, rfl, -, b3, c3⟩
    have H3 : Hold w F w3 [rEng ge gp gw gl gk s b (J i), rB gr 35 ([.int .i64 0, .bool false, av2, .int .i64 0, .slice none 0 0, .slice none 0 0]), rR kAns 42 av2 ((List.range i).map A), rB g6 4 ([.bool false]), rB g8 29 ([.int .i64 0, .string ⟨#[]⟩, .string ⟨#[]⟩, .int .i64 0])] := Hold.newB H2 e3 b3 c3
    clear H2
    clear e3 b3 c3
    have b4 : B w3 g8 29 ([.int .i64 0, .string ⟨#[]⟩, .string ⟨#[]⟩, .int .i64 0]) := Hold.blk H3 4 rfl
    refine ef0 (xst (vs := [.int .i64 ((C[i]).1), .string ((C[i]).2.1), .string ((C[i]).2.2), .int .i64 0]) ti29 rfl rfl rfl b4 rfl (Nat.le_of_ble_eq_true rfl) (one_all rfl)) ?_
    rintro w5 ⟨-, b5, c5⟩
    have H4 : Hold w F w5 [rEng ge gp gw gl gk s b (J i), rB gr 35 ([.int .i64 0, .bool false, av2, .int .i64 0, .slice none 0 0, .slice none 0 0]), rR kAns 42 av2 ((List.range i).map A), rB g6 4 ([.bool false]), rB g8 29 ([.int .i64 ((C[i]).1), .string ((C[i]).2.1), .string ((C[i]).2.2), .int .i64 0])] := Hold.setB H3 4 rfl b5 c5 rfl
    clear H3
    clear b5 c5
    have b6 : B w5 g8 29 ([.int .i64 ((C[i]).1), .string ((C[i]).2.1), .string ((C[i]).2.2), .int .i64 0]) := Hold.blk H4 4 rfl
    obtain ⟨F7, hF7, n7, s7, K7⟩ := Hold.front (Γ := [rEng ge gp gw gl gk s b (J i)]) (Δ := [rB gr 35 ([.int .i64 0, .bool false, av2, .int .i64 0, .slice none 0 0, .slice none 0 0]), rR kAns 42 av2 ((List.range i).map A), rB g6 4 ([.bool false]), rB g8 29 ([.int .i64 ((C[i]).1), .string ((C[i]).2.1), .string ((C[i]).2.2), .int .i64 0])]) H4
    refine re (rg (r (mv y2) (r (mv y0) (r (lab [.int .i64 ((C[i]).1), .string ((C[i]).2.1), .string ((C[i]).2.2), .int .i64 0] Tryz.underlying29 rfl ti29 rfl b6 rfl rfl) (cl go34 (hcall i hi' _ _ hF7 n7) (ac rfl (ac rfl an)) ?_)))))
    rintro r wc ⟨rfl, Hc⟩
    have H5 : Hold w F wc [rEng ge gp gw gl gk s b (J (i + 1)), rB gr 35 ([.int .i64 0, .bool false, av2, .int .i64 0, .slice none 0 0, .slice none 0 0]), rR kAns 42 av2 ((List.range i).map A), rB g6 4 ([.bool false]), rB g8 29 ([.int .i64 ((C[i]).1), .string ((C[i]).2.1), .string ((C[i]).2.2), .int .i64 0])] := Hold.call K7 Hc
    clear H4
    clear K7 hF7 n7 s7
    clear Hc
    have H6 : Hold w F wc [rB gr 35 ([.int .i64 0, .bool false, av2, .int .i64 0, .slice none 0 0, .slice none 0 0]), rR kAns 42 av2 ((List.range i).map A), rEng ge gp gw gl gk s b (J (i + 1)), rB g6 4 ([.bool false]), rB g8 29 ([.int .i64 ((C[i]).1), .string ((C[i]).2.1), .string ((C[i]).2.2), .int .i64 0])] := Hold.re H5 [1, 2, 0, 3, 4] (by kernel_rfl) (by rfl)
    clear H5
    obtain ⟨F8, hF8, n8, s8, K8⟩ := Hold.front (Γ := [rB gr 35 ([.int .i64 0, .bool false, av2, .int .i64 0, .slice none 0 0, .slice none 0 0]), rR kAns 42 av2 ((List.range i).map A)]) (Δ := [rEng ge gp gw gl gk s b (J (i + 1)), rB g6 4 ([.bool false]), rB g8 29 ([.int .i64 ((C[i]).1), .string ((C[i]).2.1), .string ((C[i]).2.2), .int .i64 0])]) H6
    refine clv rfl go12 (ac rfl an) (Run_2 hF8 n8 (by simp; omega)) ?_
    rintro _ wr ⟨av', Hr⟩
    have H7 : Hold w F wr [rB gr 35 ([.int .i64 0, .bool false, av', .int .i64 0, .slice none 0 0, .slice none 0 0]), rR kAns 42 av' (((List.range i).map A) ++ [((A i).1, (A i).2)]), rEng ge gp gw gl gk s b (J (i + 1)), rB g6 4 ([.bool false]), rB g8 29 ([.int .i64 ((C[i]).1), .string ((C[i]).2.1), .string ((C[i]).2.2), .int .i64 0])] := Hold.call K8 Hr
    clear H6
    clear K8 hF8 n8 s8
    clear Hr
    refine re (be (rg (r (ad (a := (i : Int)) (b := 1) ((i : Int) + 1) y12 rfl (by omega)) (r (mv rfl) (re ?_)))))
    have H8 : Hold w F wr [rEng ge gp gw gl gk s b (J (i + 1)), rB gr 35 ([.int .i64 0, .bool false, av', .int .i64 0, .slice none 0 0, .slice none 0 0]), rR kAns 42 av' (((List.range i).map A) ++ [((A i).1, (A i).2)]), rB g6 4 ([.bool false])] := (show Hold w F wr ([rEng ge gp gw gl gk s b (J (i + 1)), rB gr 35 ([.int .i64 0, .bool false, av', .int .i64 0, .slice none 0 0, .slice none 0 0]), rR kAns 42 av' (((List.range i).map A) ++ [((A i).1, (A i).2)]), rB g6 4 ([.bool false])] ++ [rB g8 29 ([.int .i64 ((C[i]).1), .string ((C[i]).2.1), .string ((C[i]).2.2), .int .i64 0])]) from Hold.re H7 [2, 0, 1, 3, 4] (by kernel_rfl) (by rfl)).drop
    clear H7
    exact ag (i + 1, av') ⟨y0, y2, y6, y10, y11, rfl, (by rw [List.range_succ, List.map_append]; exact H8), by omega⟩ (by first | omega | (dsimp only; omega))
  · have ei : i = C.length := by omega
    have b2 : B w502 g6 4 ([.bool false]) := Hold.blk H2 3 rfl
    refine ex rfl (sq (rg (ef0 (xst (vs := [.bool false]) ti4 y6 rfl (cel1 rfl) b2 rfl (Nat.le_of_ble_eq_true rfl) (one_all rfl)) ?_)))
    rintro w3 ⟨-, b3, c3⟩
    have H3 : Hold w F w3 [rEng ge gp gw gl gk s b (J i), rB gr 35 ([.int .i64 0, .bool false, av2, .int .i64 0, .slice none 0 0, .slice none 0 0]), rR kAns 42 av2 ((List.range i).map A), rB g6 4 ([.bool false])] := Hold.setB H2 3 rfl b3 c3 rfl
    clear H2
    clear b3 c3
    refine re (rtd ?_)
    refine finD go33 recC_ret (fun w9 c9 => ?_)
    have H4 : Hold w F w9 [rEng ge gp gw gl gk s b (J i), rB gr 35 ([.int .i64 0, .bool false, av2, .int .i64 0, .slice none 0 0, .slice none 0 0]), rR kAns 42 av2 ((List.range i).map A), rB g6 4 ([.bool false])] := Hold.t H3 c9
    clear H3
    have b4 : B w9 g6 4 ([.bool false]) := Hold.blk H4 3 rfl
    have H5 : Hold w F w9 [rEng ge gp gw gl gk s b (J i), rB gr 35 ([.int .i64 0, .bool false, av2, .int .i64 0, .slice none 0 0, .slice none 0 0]), rR kAns 42 av2 ((List.range i).map A)] := (show Hold w F w9 ([rEng ge gp gw gl gk s b (J i), rB gr 35 ([.int .i64 0, .bool false, av2, .int .i64 0, .slice none 0 0, .slice none 0 0]), rR kAns 42 av2 ((List.range i).map A)] ++ [rB g6 4 ([.bool false])]) from Hold.re H4 [0, 1, 2, 3] (by kernel_rfl) (by rfl)).drop
    clear H4
    exact fincs (v := .bool false) Tryz.results11 Tryz.underlying4 rfl y6 b4 rfl (by rw [← ei]; exact ⟨rfl, _, H5⟩)
end Go.Proofs.YtanfhikfeabidaaGreatDoor
