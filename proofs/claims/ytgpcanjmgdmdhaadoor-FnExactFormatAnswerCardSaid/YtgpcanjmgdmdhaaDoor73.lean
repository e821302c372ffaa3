/-
  THE LAW'S WALK: FormatAnswer. No condition.
-/
import Derived.Test.YtgpcanjmgdmdhaaDoor22
import Derived.Test.YtgpcanjmgdmdhaaDoor72
import Derived.Stop.LaidErr
import Derived.LaidOnce
namespace Go.Proofs.YtgpcanjmgdmdhaaDoor
open Go Go.Eng
set_option maxRecDepth 100000
set_option maxHeartbeats 4000000
set_option linter.unusedVariables false
set_option linter.unusedSimpArgs false
def strL (ns : List ByteArray) : Nat := (ns.map (fun n => n.size)).sum
theorem strL_take {ns : List ByteArray} {i : Nat} (h : i < ns.length) : strL (ns.take (i + 1)) = strL (ns.take i) + ns[i].size := by
  unfold strL
  rw [List.take_succ_eq_append_getElem h, List.map_append, List.sum_append]; simp
theorem namesL_str (ns : List ByteArray) : namesL ns = strL ns + ns.length := by
  unfold namesL strL
  induction ns with
  | nil => rfl
  | cons n ns ih => simp only [List.map_cons, List.sum_cons, List.length_cons, ih]; omega
theorem strL_mono (ns : List ByteArray) (i : Nat) : strL (ns.take i) ≤ strL ns := by
  induction ns generalizing i with
  | nil => simp
  | cons n ns ih => cases i with
    | zero => simp [strL]
    | succ i => have := ih i; simp only [strL, List.take_succ_cons, List.map_cons, List.sum_cons] at this ⊢; omega
theorem szCall {w : World} {k z l : Int} {nm dt : ByteArray} (h1 : nm.size ≤ maxLen) (h2 : dt.size ≤ maxLen) (hl : 0 ≤ l ∧ l ≤ 1048576) : Ret Tryd.prog 26 #[.agg #[.int .i64 k, .string nm, .string dt, .int .i64 z], .int .i64 l] w (fun r w' => ∃ n, r = .int .i64 n ∧ n ≤ l ∧ Ch [] w w') := by
  simp only [maxLen] at h1 h2
  refine enter Tryd.func26 rfl Tryd.ntmps26 (by rfl) (by rfl) ?_
  have H0 : Hold w [] w [] := Hold.start w
  refine sq (rg (ef (xbx (t := 53) rfl rfl) ?_))
  rintro _ w1 ⟨g2, e1, rfl, -, b1, c1⟩
  have H1 : Hold w [] w1 [rB g2 53 ([.int .i64 k, .string nm, .string dt, .int .i64 z])] := Hold.newB H0 e1 b1 c1
  clear H0
  clear e1 b1 c1
  have b2 : B w1 g2 53 ([.int .i64 k, .string nm, .string dt, .int .i64 z]) := Hold.blk H1 0 rfl
  refine r (sa rfl) (re (sq (rg (r (mv rfl) (r (fa Tryd.underlying53 rfl ti9 rfl rfl) (r (ldb Tryd.underlying9 rfl rfl b2 rfl) (r (lns Tryd.underlying9 rfl) (r (sb (a := l) (b := (nm.size : Int)) (l - (nm.size : Int)) rfl rfl (by omega)) (r (sa rfl) (re (sq (sq (rg (r (mv rfl) (r (bi rfl rfl rfl) (re ?_))))))))))))))))
  refine cp rfl (fun h => ?_) (fun h => ?_)
  · refine sq ?_
    refine gen (fun ρ => ρ 1 = .int .i64 (l - (nm.size : Int)) ∧ ρ 2 = .pointer (some ⟨g2, 0, none⟩) ∧ ρ 4 = .int .i64 0 ∧ True) ⟨rfl, rfl, rfl, trivial⟩ ?_
    rintro ρ ⟨z1, z2, z4, -⟩
    refine rg (r (sa rfl) (re (rt ?_)))
    exact fin1 (v := .int .i64 (-1)) Tryd.results26 rfl ⟨_, rfl, by omega, Hold.ch H1⟩
  · refine sk (sq ?_)
    refine gen (fun ρ => ρ 1 = .int .i64 (l - (nm.size : Int)) ∧ ρ 2 = .pointer (some ⟨g2, 0, none⟩) ∧ ρ 4 = .int .i64 0 ∧ True) ⟨rfl, rfl, rfl, trivial⟩ ?_
    rintro ρ ⟨z1, z2, z4, -⟩
    refine rg (r (mv z1) (r (fa Tryd.underlying53 rfl ti9 rfl z2) (r (ldb Tryd.underlying9 rfl rfl b2 rfl) (r (lns Tryd.underlying9 rfl) (r (sb (a := l - (nm.size : Int)) (b := (dt.size : Int)) ((l - (nm.size : Int)) - (dt.size : Int)) rfl rfl (by omega)) (r (sa rfl) (re (sq (sq (rg (r (mv rfl) (r (bi rfl rfl rfl) (re ?_)))))))))))))
    refine cp rfl (fun h3 => ?_) (fun h3 => ?_)
    · refine sq (rg (r (sa rfl) (re (rt ?_))))
      exact fin1 (v := .int .i64 (-1)) Tryd.results26 rfl ⟨_, rfl, by omega, Hold.ch H1⟩
    · refine sk (sq (rg (r (mv rfl) (r (sa rfl) (re (rt ?_))))))
      exact fin1 (v := .int .i64 ((l - (nm.size : Int)) - (dt.size : Int))) Tryd.results26 rfl ⟨_, rfl, by omega, Hold.ch H1⟩
theorem szStringS {w : World} {F : List Nat} {v : Value} {ns : List ByteArray} {l : Int} (hx : kStr.R w F v ns) (lx : ns.length ≤ 9223372036854775807) (hn : ∀ n, n ∈ ns → n.size ≤ maxLen) (hl : 0 ≤ l ∧ l ≤ 1048576) : Ret Tryd.prog 64 #[v, .int .i64 l] w (fun r w' => ∃ n, r = .int .i64 n ∧ (0 ≤ n → (namesL ns : Int) ≤ l) ∧ n ≤ l ∧ Ch [] w w') := by
  refine enter Tryd.func64 rfl Tryd.ntmps64 (by rfl) (by rfl) ?_
  have H0 : Hold w [] w [] := Hold.start w
  refine sq (rg (r (sa rfl) (re (sq (rg (r (mv rfl) (r (mv rfl) (r (ln Tryd.underlying54 rfl ((hx.t (Hold.ch H0)))) (r (sb (a := l) (b := (ns.length : Int)) (l - (ns.length : Int)) rfl rfl (by omega)) (r (sa rfl) (re (sq (sq (rg (r (mv rfl) (r (bi rfl rfl rfl) (re ?_)))))))))))))))))
  refine cp rfl (fun h => ?_) (fun h => ?_)
  · refine sq (rg (r (sa rfl) (re (rt ?_))))
    exact fin1 (v := .int .i64 (-1)) Tryd.results64 rfl ⟨_, rfl, fun h => by omega, by omega, Hold.ch H0⟩
  · refine sk (sq (sq (rg (r (sa rfl) (re (bl ?_))))))
    have e0 : l - (ns.length : Int) = l - (ns.length : Int) - (strL (ns.take 0) : Int) := by simp [strL]
    refine lp (α := Nat) (fun i ρ w' => ρ 0 = v ∧ ρ 1 = .int .i64 (l - (ns.length : Int) - (strL (ns.take i) : Int)) ∧ ρ 5 = .int .i64 (i : Int) ∧ Hold w [] w' [] ∧ i ≤ ns.length ∧ 0 ≤ l - (ns.length : Int) - (strL (ns.take i) : Int)) (fun i => ns.length - i) 0 ?_ ?_
    · exact ⟨rfl, (congrArg (Value.int .i64) e0), rfl, H0, ⟨by omega, by simp [strL]; omega⟩⟩
    clear H0
    rintro i ρ w501 ⟨y0, y1, y5, H1, hi, hp⟩
    refine sq (sq (rg (r (mv y5) (r (mv y0) (r (ln Tryd.underlying54 rfl ((hx.t (Hold.ch H1)))) (r (bi rfl rfl rfl) (re ?_)))))))
    refine cp rfl (fun hlt => ?_) (fun hlt => ?_)
    · have hi' : i < ns.length := by omega
      have hz := hn _ (List.getElem_mem hi')
      simp only [maxLen] at hz
      have hs := strL_take hi'
      refine sk (sq (bl (sq (rg (r (mv y1) (r (mv y0) (r (mv y5) ?_)))))))
      obtain ⟨c21_1, ad21_1, k21_1, e21_1, p21_1⟩ := Kd.R.place hx i (by omega)
      refine r (ix (j := i) Tryd.underlying54 ti9 e21_1 rfl (by omega)) (r (ld Tryd.underlying9 rfl rfl (Ch.cell (Hold.ch H1) p21_1.cell)) (r (lns Tryd.underlying9 rfl) (r (sb (a := l - (ns.length : Int) - (strL (ns.take i) : Int)) (b := ((ns[i]).size : Int)) ((l - (ns.length : Int) - (strL (ns.take i) : Int)) - ((ns[i]).size : Int)) rfl rfl (by omega)) (r (sa rfl) (re (sq ?_))))))
      refine gen (fun ρ => ρ 0 = v ∧ ρ 1 = .int .i64 ((l - (ns.length : Int) - (strL (ns.take i) : Int)) - ((ns[i]).size : Int)) ∧ ρ 5 = .int .i64 (i : Int) ∧ True) ⟨y0, rfl, y5, trivial⟩ ?_
      rintro ρ ⟨z0, z1, z5, -⟩
      refine rg (r (mv z1) (r (bi rfl rfl rfl) (re ?_)))
      refine cp rfl (fun h4 => ?_) (fun h4 => ?_)
      · refine sq (rg (r (sa rfl) (re (rt ?_))))
        exact fin1 (v := .int .i64 (-1)) Tryd.results64 rfl ⟨_, rfl, fun h => by omega, by omega, Hold.ch H1⟩
      · have e1 : l - (ns.length : Int) - (strL (ns.take i) : Int) - (ns[i].size : Int) = l - (ns.length : Int) - (strL (ns.take (i + 1)) : Int) := by omega
        refine sk (be (rg (r (mv z5) (r (ad (a := (i : Int)) (b := 1) ((i : Int) + 1) rfl rfl (by omega)) (r (sa rfl) (re ?_))))))
        exact ag (i + 1) ⟨z0, (z1.trans (congrArg (Value.int .i64) e1)), rfl, H1, ⟨by omega, by omega⟩⟩ (by first | omega | (dsimp only; omega))
    · have ei : i = ns.length := by omega
      rw [ei, List.take_length] at hp
      have hnl := namesL_str ns
      refine ex rfl (sq (rg (r (mv y1) (r (sa rfl) (re (rt ?_))))))
      exact fin1 (v := .int .i64 (l - (ns.length : Int) - (strL (ns.take i) : Int))) Tryd.results64 rfl ⟨_, rfl, fun h => by omega, by omega, Hold.ch H1⟩
theorem szAnswer {w : World} {F : List Nat} {vn : Value} {ns : List ByteArray} {data : ByteArray} {code nu a1 a2 a3 a4 a5 l : Int} (hx : kStr.R w F vn ns) (lx : ns.length ≤ 9223372036854775807) (hn : ∀ n, n ∈ ns → n.size ≤ maxLen) (hd : data.size ≤ maxLen) (hl : 0 ≤ l ∧ l ≤ 1048576) : Ret Tryd.prog 27 #[.agg #[.int .i64 code, .string data, vn, .int .i64 nu, .int .i64 a1, .int .i64 a2, .int .i64 a3, .int .i64 a4, .int .i64 a5], .int .i64 l] w (fun r w' => ∃ n, r = .int .i64 n ∧ (0 ≤ n → (namesL ns : Int) ≤ l ∧ (data.size : Int) ≤ l) ∧ Ch [] w w') := by
  simp only [maxLen] at hd
  refine enter Tryd.func27 rfl Tryd.ntmps27 (by rfl) (by rfl) ?_
  have H0 : Hold w [] w [] := Hold.start w
  refine sq (rg (ef (xbx (t := 58) rfl rfl) ?_))
  rintro _ w1 ⟨g2, e1, rfl, -, b1, c1⟩
  have H1 : Hold w [] w1 [rB g2 58 ([.int .i64 code, .string data, vn, .int .i64 nu, .int .i64 a1, .int .i64 a2, .int .i64 a3, .int .i64 a4, .int .i64 a5])] := Hold.newB H0 e1 b1 c1
  clear H0
  clear e1 b1 c1
  have b2 : B w1 g2 58 ([.int .i64 code, .string data, vn, .int .i64 nu, .int .i64 a1, .int .i64 a2, .int .i64 a3, .int .i64 a4, .int .i64 a5]) := Hold.blk H1 0 rfl
  refine r (sa rfl) (re (sq (rg (r (mv rfl) (r (fa Tryd.underlying58 rfl ti9 rfl rfl) (r (ldb Tryd.underlying9 rfl rfl b2 rfl) (r (lns Tryd.underlying9 rfl) (r (sb (a := l) (b := (data.size : Int)) (l - (data.size : Int)) rfl rfl (by omega)) (r (sa rfl) (re (sq (sq (rg (r (mv rfl) (r (bi rfl rfl rfl) (re ?_))))))))))))))))
  refine cp rfl (fun h => ?_) (fun h => ?_)
  · refine sq ?_
    refine gen (fun ρ => ρ 1 = .int .i64 (l - (data.size : Int)) ∧ ρ 2 = .pointer (some ⟨g2, 0, none⟩) ∧ ρ 4 = .int .i64 0 ∧ True) ⟨rfl, rfl, rfl, trivial⟩ ?_
    rintro ρ ⟨z1, z2, z4, -⟩
    refine rg (r (sa rfl) (re (rt ?_)))
    exact fin1 (v := .int .i64 (-1)) Tryd.results27 rfl ⟨_, rfl, fun h => by omega, Hold.ch H1⟩
  · refine sk (sq ?_)
    refine gen (fun ρ => ρ 1 = .int .i64 (l - (data.size : Int)) ∧ ρ 2 = .pointer (some ⟨g2, 0, none⟩) ∧ ρ 4 = .int .i64 0 ∧ True) ⟨rfl, rfl, rfl, trivial⟩ ?_
    rintro ρ ⟨z1, z2, z4, -⟩
    refine rg (r (fa Tryd.underlying58 rfl ti54 rfl z2) (r (ldb Tryd.underlying54 rfl rfl b2 rfl) (r (mv z1) (cl go64 (szStringS (hx.t (Hold.ch H1)) lx hn (by omega)) (ac rfl (ac rfl an)) ?_))))
    rintro r wz ⟨n, rfl, hn1, hn2, cz⟩
    have H2 : Hold w [] wz [rB g2 58 ([.int .i64 code, .string data, vn, .int .i64 nu, .int .i64 a1, .int .i64 a2, .int .i64 a3, .int .i64 a4, .int .i64 a5])] := Hold.t H1 cz
    clear H1
    clear cz
    refine r (sa rfl) (re (sq (sq (rg (r (mv rfl) (r (bi rfl rfl rfl) (re ?_)))))))
    refine cp rfl (fun h2 => ?_) (fun h2 => ?_)
    · refine sq (rg (r (sa rfl) (re (rt ?_))))
      exact fin1 (v := .int .i64 (-1)) Tryd.results27 rfl ⟨_, rfl, fun h => by omega, Hold.ch H2⟩
    · refine sk (sq (rg (r (mv rfl) (r (sa rfl) (re (rt ?_))))))
      exact fin1 (v := .int .i64 n) Tryd.results27 rfl ⟨_, rfl, fun h => ⟨by have := hn1 h; omega, by omega⟩, Hold.ch H2⟩
theorem toCall {w : World} {k z : Int} {nm dt : ByteArray} : Ret Tryd.prog 29 #[.agg #[.int .i64 k, .string nm, .string dt, .int .i64 z]] w (fun r w' => r = .agg #[.int .i64 k, .string nm, .string dt, .int .i64 z] ∧ Ch [] w w') := by
  refine enter Tryd.func29 rfl Tryd.ntmps29 (by rfl) (by rfl) ?_
  have H0 : Hold w [] w [] := Hold.start w
  refine sq (rg (ef (xbx (t := 53) rfl rfl) ?_))
  rintro _ w1 ⟨g1, e1, rfl, -, b1, c1⟩
  have H1 : Hold w [] w1 [rB g1 53 ([.int .i64 k, .string nm, .string dt, .int .i64 z])] := Hold.newB H0 e1 b1 c1
  clear H0
  clear e1 b1 c1
  refine ef (xal ti62) ?_
  rintro _ w2 ⟨g2, e2, rfl, -, b2, c2⟩
  have H2 : Hold w [] w2 [rB g1 53 ([.int .i64 k, .string nm, .string dt, .int .i64 z]), rB g2 62 ([.int .i64 0, .string ⟨#[]⟩, .string ⟨#[]⟩, .int .i64 0])] := Hold.newB H1 e2 b2 c2
  clear H1
  clear e2 b2 c2
  refine re (sq (rg (ef (xal ti62) ?_)))
  rintro _ w3 ⟨g3, e3, rfl, -, b3, c3⟩
  have H3 : Hold w [] w3 [rB g1 53 ([.int .i64 k, .string nm, .string dt, .int .i64 z]), rB g2 62 ([.int .i64 0, .string ⟨#[]⟩, .string ⟨#[]⟩, .int .i64 0]), rB g3 62 ([.int .i64 0, .string ⟨#[]⟩, .string ⟨#[]⟩, .int .i64 0])] := Hold.newB H2 e3 b3 c3
  clear H2
  clear e3 b3 c3
  have b4 : B w3 g1 53 ([.int .i64 k, .string nm, .string dt, .int .i64 z]) := Hold.blk H3 0 rfl
  have b5 : B w3 g3 62 ([.int .i64 0, .string ⟨#[]⟩, .string ⟨#[]⟩, .int .i64 0]) := Hold.blk H3 2 rfl
  refine re (sq (rg (r (fa Tryd.underlying53 rfl ti2 rfl rfl) (r (ldb Tryd.underlying2 rfl rfl b4 rfl) (r (fa Tryd.underlying62 rfl ti2 rfl rfl) (ef0 (xst (vs := [.int .i64 k]) ti2 rfl rfl (cel1 rfl) b5 rfl (Nat.le_of_ble_eq_true rfl) (one_all rfl)) ?_))))))
  rintro w6 ⟨-, b6, c6⟩
  have H4 : Hold w [] w6 [rB g1 53 ([.int .i64 k, .string nm, .string dt, .int .i64 z]), rB g2 62 ([.int .i64 0, .string ⟨#[]⟩, .string ⟨#[]⟩, .int .i64 0]), rB g3 62 ([.int .i64 k, .string ⟨#[]⟩, .string ⟨#[]⟩, .int .i64 0])] := Hold.setB H3 2 rfl b6 c6 rfl
  clear H3
  clear b6 c6
  have b7 : B w6 g1 53 ([.int .i64 k, .string nm, .string dt, .int .i64 z]) := Hold.blk H4 0 rfl
  have b8 : B w6 g3 62 ([.int .i64 k, .string ⟨#[]⟩, .string ⟨#[]⟩, .int .i64 0]) := Hold.blk H4 2 rfl
  refine re (sq (rg (r (fa Tryd.underlying53 rfl ti9 rfl rfl) (r (ldb Tryd.underlying9 rfl rfl b7 rfl) (r (fa Tryd.underlying62 rfl ti9 rfl rfl) (ef0 (xst (vs := [.string nm]) ti9 rfl rfl (cel1 rfl) b8 rfl (Nat.le_of_ble_eq_true rfl) (one_all rfl)) ?_))))))
  rintro w9 ⟨-, b9, c9⟩
  have H5 : Hold w [] w9 [rB g1 53 ([.int .i64 k, .string nm, .string dt, .int .i64 z]), rB g2 62 ([.int .i64 0, .string ⟨#[]⟩, .string ⟨#[]⟩, .int .i64 0]), rB g3 62 ([.int .i64 k, .string nm, .string ⟨#[]⟩, .int .i64 0])] := Hold.setB H4 2 rfl b9 c9 rfl
  clear H4
  clear b9 c9
  have b10 : B w9 g1 53 ([.int .i64 k, .string nm, .string dt, .int .i64 z]) := Hold.blk H5 0 rfl
  have b11 : B w9 g3 62 ([.int .i64 k, .string nm, .string ⟨#[]⟩, .int .i64 0]) := Hold.blk H5 2 rfl
  refine re (sq (rg (r (fa Tryd.underlying53 rfl ti9 rfl rfl) (r (ldb Tryd.underlying9 rfl rfl b10 rfl) (r (fa Tryd.underlying62 rfl ti9 rfl rfl) (ef0 (xst (vs := [.string dt]) ti9 rfl rfl (cel1 rfl) b11 rfl (Nat.le_of_ble_eq_true rfl) (one_all rfl)) ?_))))))
  rintro w12 ⟨-, b12, c12⟩
  have H6 : Hold w [] w12 [rB g1 53 ([.int .i64 k, .string nm, .string dt, .int .i64 z]), rB g2 62 ([.int .i64 0, .string ⟨#[]⟩, .string ⟨#[]⟩, .int .i64 0]), rB g3 62 ([.int .i64 k, .string nm, .string dt, .int .i64 0])] := Hold.setB H5 2 rfl b12 c12 rfl
  clear H5
  clear b12 c12
  refine re (sq ?_)
  refine gen (fun ρ => ρ 1 = .pointer (some ⟨g1, 0, none⟩) ∧ ρ 2 = .pointer (some ⟨g2, 0, none⟩) ∧ ρ 3 = .pointer (some ⟨g3, 0, none⟩) ∧ True) ⟨rfl, rfl, rfl, trivial⟩ ?_
  rintro ρ ⟨z1, z2, z3, -⟩
  have b13 : B w12 g1 53 ([.int .i64 k, .string nm, .string dt, .int .i64 z]) := Hold.blk H6 0 rfl
  have b14 : B w12 g3 62 ([.int .i64 k, .string nm, .string dt, .int .i64 0]) := Hold.blk H6 2 rfl
  refine rg (r (fa Tryd.underlying53 rfl ti2 rfl z1) (r (ldb Tryd.underlying2 rfl rfl b13 rfl) (r (fa Tryd.underlying62 rfl ti2 rfl z3) (ef0 (xst (vs := [.int .i64 z]) ti2 rfl rfl (cel1 rfl) b14 rfl (Nat.le_of_ble_eq_true rfl) (one_all rfl)) ?_))))
  rintro w15 ⟨-, b15, c15⟩
  have H7 : Hold w [] w15 [rB g1 53 ([.int .i64 k, .string nm, .string dt, .int .i64 z]), rB g2 62 ([.int .i64 0, .string ⟨#[]⟩, .string ⟨#[]⟩, .int .i64 0]), rB g3 62 ([.int .i64 k, .string nm, .string dt, .int .i64 z])] := Hold.setB H6 2 rfl b15 c15 rfl
  clear H6
  clear b15 c15
  have b16 : B w15 g3 62 ([.int .i64 k, .string nm, .string dt, .int .i64 z]) := Hold.blk H7 2 rfl
  have b17 : B w15 g2 62 ([.int .i64 0, .string ⟨#[]⟩, .string ⟨#[]⟩, .int .i64 0]) := Hold.blk H7 1 rfl
  refine re (sq (rg (r (lab [.int .i64 k, .string nm, .string dt, .int .i64 z] Tryd.underlying62 rfl ti62 z3 b16 rfl rfl) (ef0 (xst (vs := [.int .i64 k, .string nm, .string dt, .int .i64 z]) ti62 z2 rfl rfl b17 rfl (Nat.le_of_ble_eq_true rfl) (one_all rfl)) ?_))))
  rintro w18 ⟨-, b18, c18⟩
  have H8 : Hold w [] w18 [rB g1 53 ([.int .i64 k, .string nm, .string dt, .int .i64 z]), rB g2 62 ([.int .i64 k, .string nm, .string dt, .int .i64 z]), rB g3 62 ([.int .i64 k, .string nm, .string dt, .int .i64 z])] := Hold.setB H7 1 rfl b18 c18 rfl
  clear H7
  clear b18 c18
  refine re (rt ?_)
  have b19 : B w18 g2 62 ([.int .i64 k, .string nm, .string dt, .int .i64 z]) := Hold.blk H8 1 rfl
  exact finc  (cs := [.int .i64 k, .string nm, .string dt, .int .i64 z]) Tryd.results29 Tryd.underlying62 rfl ti62 z2 b19 rfl  ⟨rfl, Hold.ch H8⟩
theorem toStat {w : World} {a1 a2 a3 a4 a5 : Int} : Ret Tryd.prog 68 #[.agg #[.int .i64 a1, .int .i64 a2, .int .i64 a3, .int .i64 a4, .int .i64 a5]] w (fun r w' => r = .agg #[.int .i64 a1, .int .i64 a2, .int .i64 a3, .int .i64 a4, .int .i64 a5] ∧ Ch [] w w') := by
  refine enter Tryd.func68 rfl Tryd.ntmps68 (by rfl) (by rfl) ?_
  have H0 : Hold w [] w [] := Hold.start w
  refine sq (rg (ef (xbx (t := 56) rfl rfl) ?_))
  rintro _ w1 ⟨g1, e1, rfl, -, b1, c1⟩
  have H1 : Hold w [] w1 [rB g1 56 ([.int .i64 a1, .int .i64 a2, .int .i64 a3, .int .i64 a4, .int .i64 a5])] := Hold.newB H0 e1 b1 c1
  clear H0
  clear e1 b1 c1
  refine ef (xal ti64) ?_
  rintro _ w2 ⟨g2, e2, rfl, -, b2, c2⟩
  have H2 : Hold w [] w2 [rB g1 56 ([.int .i64 a1, .int .i64 a2, .int .i64 a3, .int .i64 a4, .int .i64 a5]), rB g2 64 ([.int .i64 0, .int .i64 0, .int .i64 0, .int .i64 0, .int .i64 0])] := Hold.newB H1 e2 b2 c2
  clear H1
  clear e2 b2 c2
  refine re (sq (rg (ef (xal ti64) ?_)))
  rintro _ w3 ⟨g3, e3, rfl, -, b3, c3⟩
  have H3 : Hold w [] w3 [rB g1 56 ([.int .i64 a1, .int .i64 a2, .int .i64 a3, .int .i64 a4, .int .i64 a5]), rB g2 64 ([.int .i64 0, .int .i64 0, .int .i64 0, .int .i64 0, .int .i64 0]), rB g3 64 ([.int .i64 0, .int .i64 0, .int .i64 0, .int .i64 0, .int .i64 0])] := Hold.newB H2 e3 b3 c3
  clear H2
  clear e3 b3 c3
  have b4 : B w3 g1 56 ([.int .i64 a1, .int .i64 a2, .int .i64 a3, .int .i64 a4, .int .i64 a5]) := Hold.blk H3 0 rfl
  have b5 : B w3 g3 64 ([.int .i64 0, .int .i64 0, .int .i64 0, .int .i64 0, .int .i64 0]) := Hold.blk H3 2 rfl
  refine re (sq (rg (r (fa Tryd.underlying56 rfl ti2 rfl rfl) (r (ldb Tryd.underlying2 rfl rfl b4 rfl) (r (fa Tryd.underlying64 rfl ti2 rfl rfl) (ef0 (xst (vs := [.int .i64 a1]) ti2 rfl rfl (cel1 rfl) b5 rfl (Nat.le_of_ble_eq_true rfl) (one_all rfl)) ?_))))))
  rintro w6 ⟨-, b6, c6⟩
  have H4 : Hold w [] w6 [rB g1 56 ([.int .i64 a1, .int .i64 a2, .int .i64 a3, .int .i64 a4, .int .i64 a5]), rB g2 64 ([.int .i64 0, .int .i64 0, .int .i64 0, .int .i64 0, .int .i64 0]), rB g3 64 ([.int .i64 a1, .int .i64 0, .int .i64 0, .int .i64 0, .int .i64 0])] := Hold.setB H3 2 rfl b6 c6 rfl
  clear H3
  clear b6 c6
  have b7 : B w6 g1 56 ([.int .i64 a1, .int .i64 a2, .int .i64 a3, .int .i64 a4, .int .i64 a5]) := Hold.blk H4 0 rfl
  have b8 : B w6 g3 64 ([.int .i64 a1, .int .i64 0, .int .i64 0, .int .i64 0, .int .i64 0]) := Hold.blk H4 2 rfl
  refine re (sq (rg (r (fa Tryd.underlying56 rfl ti2 rfl rfl) (r (ldb Tryd.underlying2 rfl rfl b7 rfl) (r (fa Tryd.underlying64 rfl ti2 rfl rfl) (ef0 (xst (vs := [.int .i64 a2]) ti2 rfl rfl (cel1 rfl) b8 rfl (Nat.le_of_ble_eq_true rfl) (one_all rfl)) ?_))))))
  rintro w9 ⟨-, b9, c9⟩
  have H5 : Hold w [] w9 [rB g1 56 ([.int .i64 a1, .int .i64 a2, .int .i64 a3, .int .i64 a4, .int .i64 a5]), rB g2 64 ([.int .i64 0, .int .i64 0, .int .i64 0, .int .i64 0, .int .i64 0]), rB g3 64 ([.int .i64 a1, .int .i64 a2, .int .i64 0, .int .i64 0, .int .i64 0])] := Hold.setB H4 2 rfl b9 c9 rfl
  clear H4
  clear b9 c9
  have b10 : B w9 g1 56 ([.int .i64 a1, .int .i64 a2, .int .i64 a3, .int .i64 a4, .int .i64 a5]) := Hold.blk H5 0 rfl
  have b11 : B w9 g3 64 ([.int .i64 a1, .int .i64 a2, .int .i64 0, .int .i64 0, .int .i64 0]) := Hold.blk H5 2 rfl
  refine re (sq (rg (r (fa Tryd.underlying56 rfl ti2 rfl rfl) (r (ldb Tryd.underlying2 rfl rfl b10 rfl) (r (fa Tryd.underlying64 rfl ti2 rfl rfl) (ef0 (xst (vs := [.int .i64 a3]) ti2 rfl rfl (cel1 rfl) b11 rfl (Nat.le_of_ble_eq_true rfl) (one_all rfl)) ?_))))))
  rintro w12 ⟨-, b12, c12⟩
  have H6 : Hold w [] w12 [rB g1 56 ([.int .i64 a1, .int .i64 a2, .int .i64 a3, .int .i64 a4, .int .i64 a5]), rB g2 64 ([.int .i64 0, .int .i64 0, .int .i64 0, .int .i64 0, .int .i64 0]), rB g3 64 ([.int .i64 a1, .int .i64 a2, .int .i64 a3, .int .i64 0, .int .i64 0])] := Hold.setB H5 2 rfl b12 c12 rfl
  clear H5
  clear b12 c12
  refine re (sq ?_)
  refine gen (fun ρ => ρ 1 = .pointer (some ⟨g1, 0, none⟩) ∧ ρ 2 = .pointer (some ⟨g2, 0, none⟩) ∧ ρ 3 = .pointer (some ⟨g3, 0, none⟩) ∧ True) ⟨rfl, rfl, rfl, trivial⟩ ?_
  rintro ρ ⟨z1, z2, z3, -⟩
  have b13 : B w12 g1 56 ([.int .i64 a1, .int .i64 a2, .int .i64 a3, .int .i64 a4, .int .i64 a5]) := Hold.blk H6 0 rfl
  have b14 : B w12 g3 64 ([.int .i64 a1, .int .i64 a2, .int .i64 a3, .int .i64 0, .int .i64 0]) := Hold.blk H6 2 rfl
  refine rg (r (fa Tryd.underlying56 rfl ti2 rfl z1) (r (ldb Tryd.underlying2 rfl rfl b13 rfl) (r (fa Tryd.underlying64 rfl ti2 rfl z3) (ef0 (xst (vs := [.int .i64 a4]) ti2 rfl rfl (cel1 rfl) b14 rfl (Nat.le_of_ble_eq_true rfl) (one_all rfl)) ?_))))
  rintro w15 ⟨-, b15, c15⟩
  have H7 : Hold w [] w15 [rB g1 56 ([.int .i64 a1, .int .i64 a2, .int .i64 a3, .int .i64 a4, .int .i64 a5]), rB g2 64 ([.int .i64 0, .int .i64 0, .int .i64 0, .int .i64 0, .int .i64 0]), rB g3 64 ([.int .i64 a1, .int .i64 a2, .int .i64 a3, .int .i64 a4, .int .i64 0])] := Hold.setB H6 2 rfl b15 c15 rfl
  clear H6
  clear b15 c15
  have b16 : B w15 g1 56 ([.int .i64 a1, .int .i64 a2, .int .i64 a3, .int .i64 a4, .int .i64 a5]) := Hold.blk H7 0 rfl
  have b17 : B w15 g3 64 ([.int .i64 a1, .int .i64 a2, .int .i64 a3, .int .i64 a4, .int .i64 0]) := Hold.blk H7 2 rfl
  refine re (sq (rg (r (fa Tryd.underlying56 rfl ti2 rfl z1) (r (ldb Tryd.underlying2 rfl rfl b16 rfl) (r (fa Tryd.underlying64 rfl ti2 rfl z3) (ef0 (xst (vs := [.int .i64 a5]) ti2 rfl rfl (cel1 rfl) b17 rfl (Nat.le_of_ble_eq_true rfl) (one_all rfl)) ?_))))))
  rintro w18 ⟨-, b18, c18⟩
  have H8 : Hold w [] w18 [rB g1 56 ([.int .i64 a1, .int .i64 a2, .int .i64 a3, .int .i64 a4, .int .i64 a5]), rB g2 64 ([.int .i64 0, .int .i64 0, .int .i64 0, .int .i64 0, .int .i64 0]), rB g3 64 ([.int .i64 a1, .int .i64 a2, .int .i64 a3, .int .i64 a4, .int .i64 a5])] := Hold.setB H7 2 rfl b18 c18 rfl
  clear H7
  clear b18 c18
  have b19 : B w18 g3 64 ([.int .i64 a1, .int .i64 a2, .int .i64 a3, .int .i64 a4, .int .i64 a5]) := Hold.blk H8 2 rfl
  have b20 : B w18 g2 64 ([.int .i64 0, .int .i64 0, .int .i64 0, .int .i64 0, .int .i64 0]) := Hold.blk H8 1 rfl
  refine re (sq (rg (r (lab [.int .i64 a1, .int .i64 a2, .int .i64 a3, .int .i64 a4, .int .i64 a5] Tryd.underlying64 rfl ti64 z3 b19 rfl rfl) (ef0 (xst (vs := [.int .i64 a1, .int .i64 a2, .int .i64 a3, .int .i64 a4, .int .i64 a5]) ti64 z2 rfl rfl b20 rfl (Nat.le_of_ble_eq_true rfl) (one_all rfl)) ?_))))
  rintro w21 ⟨-, b21, c21⟩
  have H9 : Hold w [] w21 [rB g1 56 ([.int .i64 a1, .int .i64 a2, .int .i64 a3, .int .i64 a4, .int .i64 a5]), rB g2 64 ([.int .i64 a1, .int .i64 a2, .int .i64 a3, .int .i64 a4, .int .i64 a5]), rB g3 64 ([.int .i64 a1, .int .i64 a2, .int .i64 a3, .int .i64 a4, .int .i64 a5])] := Hold.setB H8 1 rfl b21 c21 rfl
  clear H8
  clear b21 c21
  refine re (rt ?_)
  have b22 : B w21 g2 64 ([.int .i64 a1, .int .i64 a2, .int .i64 a3, .int .i64 a4, .int .i64 a5]) := Hold.blk H9 1 rfl
  exact finc  (cs := [.int .i64 a1, .int .i64 a2, .int .i64 a3, .int .i64 a4, .int .i64 a5]) Tryd.results68 Tryd.underlying64 rfl ti64 z2 b22 rfl  ⟨rfl, Hold.ch H9⟩
theorem toStringS_H {w : World} {F : List Nat} {v : Value} {xs : List ByteArray} (hx : kStr.R w F v xs) (lx : xs.length ≤ 1000000000) : Ret Tryd.prog 67 #[v] w (fun r w' => Hold w [] w' [rR kStr 9 r xs]) := by
  refine enter Tryd.func67 rfl Tryd.ntmps67 (by rfl) (by rfl) ?_
  have H0 : Hold w [] w [] := Hold.start w
  refine sq (rg (r (sa rfl) (re (sq (rg (r (mv rfl) (r (ln Tryd.underlying54 rfl ((hx.t (Hold.ch H0)))) (ef (xmk (dk := kStr) (m := xs.length) (⟨#[]⟩ : ByteArray) Tryd.underlying54 ti9 (fun _ => ⟨rfl, rfl⟩) rfl rfl (by omega)) ?_))))))))
  rintro v1 w1 N1
  have H1 : Hold w [] w1 [rR kStr 9 v1 (List.replicate xs.length (⟨#[]⟩ : ByteArray))] := Hold.newr H0 N1
  clear H0
  refine r (sa rfl) (re (sq (sq (rg (r (sa rfl) (re (bl ?_)))))))
  have e0 : List.replicate xs.length (⟨#[]⟩ : ByteArray) = xs.take 0 ++ List.replicate (xs.length - 0) (⟨#[]⟩ : ByteArray) := by simp
  rw [e0] at H1
  refine lp (α := Nat) (fun k ρ w' => ρ 0 = v ∧ ρ 3 = v1 ∧ ρ 4 = .int .i64 (k : Int) ∧ Hold w [] w' [rR kStr 9 v1 (xs.take k ++ List.replicate (xs.length - k) (⟨#[]⟩ : ByteArray))] ∧ k ≤ xs.length) (fun k => xs.length - k) 0 ?_ ?_
  · exact ⟨rfl, rfl, rfl, H1, by omega⟩
  clear H1
  rintro k ρ w502 ⟨y0, y3, y4, H2, hk⟩
  refine sq (sq (rg (r (mv y4) (r (mv y0) (r (ln Tryd.underlying54 rfl ((hx.t (Hold.ch H2)))) (r (bi rfl rfl rfl) (re ?_)))))))
  refine cp rfl (fun h => ?_) (fun h => ?_)
  · have hk' : k < xs.length := by omega
    have hl : (xs.take k ++ List.replicate (xs.length - k) (⟨#[]⟩ : ByteArray)).length = xs.length := by simp; omega
    refine sk (sq (bl (rg (r (mv y3) (r (mv y4) (r (mv y0) (r (mv y4) ?_)))))))
    obtain ⟨c18_2, ad18_2, k18_2, e18_2, p18_2⟩ := Kd.R.place hx k (by omega)
    obtain ⟨F4, P4, n4, s4, K4⟩ := Hold.pick H2 0 rfl
    replace P4 : Kd.W kStr 9 w502 F4 v1 (xs.take k ++ List.replicate (xs.length - k) (⟨#[]⟩ : ByteArray)) := P4
    refine r (ix (j := k) Tryd.underlying54 ti9 e18_2 rfl (by omega)) (r (ld Tryd.underlying9 rfl rfl (Ch.cell (Hold.ch H2) p18_2.cell)) (ixs (a := xs[k]) (j := k) Tryd.underlying54 ti9 rfl P4 rfl (by rw [hl]; exact hk') (fun _ => rfl) ⟨rfl, rfl⟩ (nodup_nil n4) ?_))
    intro _ w3 F3 s3 A3
    have H3 : Hold w [] w3 [rR kStr 9 v1 ((xs.take k ++ List.replicate (xs.length - k) (⟨#[]⟩ : ByteArray)).set k (xs[k]))] := Hold.apd K4 P4 A3 rfl
    clear H2
    clear A3 K4 P4 n4 s4 s3
    refine re (be ?_)
    refine gen (fun ρ => ρ 0 = v ∧ ρ 3 = v1 ∧ ρ 4 = .int .i64 (k : Int) ∧ True) ⟨y0, y3, y4, trivial⟩ ?_
    rintro ρ ⟨z0, z3, z4, -⟩
    refine rg (r (mv z4) (r (ad (a := (k : Int)) (b := 1) ((k : Int) + 1) rfl rfl (by omega)) (r (sa rfl) (re ?_))))
    exact ag (k + 1) ⟨z0, z3, rfl, (by have := H3; rwa [set_rep xs (⟨#[]⟩ : ByteArray) k hk'] at this), by omega⟩ (by first | omega | (dsimp only; omega))
  · have ek : k = xs.length := by omega
    rw [ek, List.take_length, Nat.sub_self, List.replicate_zero, List.append_nil] at H2
    refine ex rfl (sq (rg (r (mv y3) (r (sa rfl) (re (rt ?_))))))
    exact fin1 (v := v1) Tryd.results67 rfl H2
theorem toAnswer_H {w : World} {F : List Nat} {vn : Value} {ns : List ByteArray} {data : ByteArray} {code nu a1 a2 a3 a4 a5 : Int} (hx : kStr.R w F vn ns) (lx : ns.length ≤ 1000000000) : Ret Tryd.prog 30 #[.agg #[.int .i64 code, .string data, vn, .int .i64 nu, .int .i64 a1, .int .i64 a2, .int .i64 a3, .int .i64 a4, .int .i64 a5]] w (fun r w' => ∃ u, r = .agg #[.int .i64 code, .string data, u, .int .i64 nu, .int .i64 a1, .int .i64 a2, .int .i64 a3, .int .i64 a4, .int .i64 a5] ∧ Hold w [] w' [rR kStr 9 u ns]) := by
  refine enter Tryd.func30 rfl Tryd.ntmps30 (by rfl) (by rfl) ?_
  have H0 : Hold w [] w [] := Hold.start w
  refine sq (rg (ef (xbx (t := 58) rfl rfl) ?_))
  rintro _ w1 ⟨g1, e1, rfl, -, b1, c1⟩
  have H1 : Hold w [] w1 [rB g1 58 ([.int .i64 code, .string data, vn, .int .i64 nu, .int .i64 a1, .int .i64 a2, .int .i64 a3, .int .i64 a4, .int .i64 a5])] := Hold.newB H0 e1 b1 c1
  clear H0
  clear e1 b1 c1
  refine ef (xal ti66) ?_
  rintro _ w2 ⟨g2, e2, rfl, -, b2, c2⟩
  have H2 : Hold w [] w2 [rB g1 58 ([.int .i64 code, .string data, vn, .int .i64 nu, .int .i64 a1, .int .i64 a2, .int .i64 a3, .int .i64 a4, .int .i64 a5]), rB g2 66 ([.int .i64 0, .string ⟨#[]⟩, .slice none 0 0, .int .i64 0, .int .i64 0, .int .i64 0, .int .i64 0, .int .i64 0, .int .i64 0])] := Hold.newB H1 e2 b2 c2
  clear H1
  clear e2 b2 c2
  refine re (sq (rg (ef (xal ti66) ?_)))
  rintro _ w3 ⟨g3, e3, rfl, -, b3, c3⟩
  have H3 : Hold w [] w3 [rB g1 58 ([.int .i64 code, .string data, vn, .int .i64 nu, .int .i64 a1, .int .i64 a2, .int .i64 a3, .int .i64 a4, .int .i64 a5]), rB g2 66 ([.int .i64 0, .string ⟨#[]⟩, .slice none 0 0, .int .i64 0, .int .i64 0, .int .i64 0, .int .i64 0, .int .i64 0, .int .i64 0]), rB g3 66 ([.int .i64 0, .string ⟨#[]⟩, .slice none 0 0, .int .i64 0, .int .i64 0, .int .i64 0, .int .i64 0, .int .i64 0, .int .i64 0])] := Hold.newB H2 e3 b3 c3
  clear H2
  clear e3 b3 c3
  have b4 : B w3 g1 58 ([.int .i64 code, .string data, vn, .int .i64 nu, .int .i64 a1, .int .i64 a2, .int .i64 a3, .int .i64 a4, .int .i64 a5]) := Hold.blk H3 0 rfl
  have b5 : B w3 g3 66 ([.int .i64 0, .string ⟨#[]⟩, .slice none 0 0, .int .i64 0, .int .i64 0, .int .i64 0, .int .i64 0, .int .i64 0, .int .i64 0]) := Hold.blk H3 2 rfl
  refine re (sq (rg (r (fa Tryd.underlying58 rfl ti2 rfl rfl) (r (ldb Tryd.underlying2 rfl rfl b4 rfl) (r (fa Tryd.underlying66 rfl ti2 rfl rfl) (ef0 (xst (vs := [.int .i64 code]) ti2 rfl rfl (cel1 rfl) b5 rfl (Nat.le_of_ble_eq_true rfl) (one_all rfl)) ?_))))))
  rintro w6 ⟨-, b6, c6⟩
  have H4 : Hold w [] w6 [rB g1 58 ([.int .i64 code, .string data, vn, .int .i64 nu, .int .i64 a1, .int .i64 a2, .int .i64 a3, .int .i64 a4, .int .i64 a5]), rB g2 66 ([.int .i64 0, .string ⟨#[]⟩, .slice none 0 0, .int .i64 0, .int .i64 0, .int .i64 0, .int .i64 0, .int .i64 0, .int .i64 0]), rB g3 66 ([.int .i64 code, .string ⟨#[]⟩, .slice none 0 0, .int .i64 0, .int .i64 0, .int .i64 0, .int .i64 0, .int .i64 0, .int .i64 0])] := Hold.setB H3 2 rfl b6 c6 rfl
  clear H3
  clear b6 c6
  have b7 : B w6 g1 58 ([.int .i64 code, .string data, vn, .int .i64 nu, .int .i64 a1, .int .i64 a2, .int .i64 a3, .int .i64 a4, .int .i64 a5]) := Hold.blk H4 0 rfl
  have b8 : B w6 g3 66 ([.int .i64 code, .string ⟨#[]⟩, .slice none 0 0, .int .i64 0, .int .i64 0, .int .i64 0, .int .i64 0, .int .i64 0, .int .i64 0]) := Hold.blk H4 2 rfl
  refine re (sq (rg (r (fa Tryd.underlying58 rfl ti9 rfl rfl) (r (ldb Tryd.underlying9 rfl rfl b7 rfl) (r (fa Tryd.underlying66 rfl ti9 rfl rfl) (ef0 (xst (vs := [.string data]) ti9 rfl rfl (cel1 rfl) b8 rfl (Nat.le_of_ble_eq_true rfl) (one_all rfl)) ?_))))))
  rintro w9 ⟨-, b9, c9⟩
  have H5 : Hold w [] w9 [rB g1 58 ([.int .i64 code, .string data, vn, .int .i64 nu, .int .i64 a1, .int .i64 a2, .int .i64 a3, .int .i64 a4, .int .i64 a5]), rB g2 66 ([.int .i64 0, .string ⟨#[]⟩, .slice none 0 0, .int .i64 0, .int .i64 0, .int .i64 0, .int .i64 0, .int .i64 0, .int .i64 0]), rB g3 66 ([.int .i64 code, .string data, .slice none 0 0, .int .i64 0, .int .i64 0, .int .i64 0, .int .i64 0, .int .i64 0, .int .i64 0])] := Hold.setB H4 2 rfl b9 c9 rfl
  clear H4
  clear b9 c9
  have b10 : B w9 g1 58 ([.int .i64 code, .string data, vn, .int .i64 nu, .int .i64 a1, .int .i64 a2, .int .i64 a3, .int .i64 a4, .int .i64 a5]) := Hold.blk H5 0 rfl
  refine re (sq (rg (r (fa Tryd.underlying58 rfl ti54 rfl rfl) (r (ldb Tryd.underlying54 rfl rfl b10 rfl) (cl go67 (toStringS_H (hx.t (Hold.ch H5)) (by first | assumption | omega | (simp; omega))) (ac rfl an) ?_)))))
  rintro r11 wt11 Ht11
  have H6 : Hold w [] wt11 [rB g1 58 ([.int .i64 code, .string data, vn, .int .i64 nu, .int .i64 a1, .int .i64 a2, .int .i64 a3, .int .i64 a4, .int .i64 a5]), rB g2 66 ([.int .i64 0, .string ⟨#[]⟩, .slice none 0 0, .int .i64 0, .int .i64 0, .int .i64 0, .int .i64 0, .int .i64 0, .int .i64 0]), rB g3 66 ([.int .i64 code, .string data, .slice none 0 0, .int .i64 0, .int .i64 0, .int .i64 0, .int .i64 0, .int .i64 0, .int .i64 0]), rR kStr 9 r11 ns] := Hold.news H5 Ht11
  clear H5
  clear Ht11
  have b13 : B wt11 g3 66 ([.int .i64 code, .string data, .slice none 0 0, .int .i64 0, .int .i64 0, .int .i64 0, .int .i64 0, .int .i64 0, .int .i64 0]) := Hold.blk H6 2 rfl
  obtain ⟨_, R15⟩ : ∃ F, Kd.R kStr wt11 F r11 ns := Hold.row H6 3 rfl
  refine r (fa Tryd.underlying66 rfl ti54 rfl rfl) (ef0 (xst (vs := [r11]) ti54 rfl rfl (cel1 (R15).oneCell) b13 rfl (Nat.le_of_ble_eq_true rfl) (ones1 (R15).oneCell)) ?_)
  rintro w14 ⟨-, b14, c14⟩
  have H7 : Hold w [] w14 [rB g1 58 ([.int .i64 code, .string data, vn, .int .i64 nu, .int .i64 a1, .int .i64 a2, .int .i64 a3, .int .i64 a4, .int .i64 a5]), rB g2 66 ([.int .i64 0, .string ⟨#[]⟩, .slice none 0 0, .int .i64 0, .int .i64 0, .int .i64 0, .int .i64 0, .int .i64 0, .int .i64 0]), rB g3 66 ([.int .i64 code, .string data, r11, .int .i64 0, .int .i64 0, .int .i64 0, .int .i64 0, .int .i64 0, .int .i64 0]), rR kStr 9 r11 ns] := Hold.setB H6 2 rfl b14 c14 rfl
  clear H6
  clear b14 c14
  refine re (sq ?_)
  refine gen (fun ρ => ρ 1 = .pointer (some ⟨g1, 0, none⟩) ∧ ρ 2 = .pointer (some ⟨g2, 0, none⟩) ∧ ρ 3 = .pointer (some ⟨g3, 0, none⟩) ∧ True) ⟨rfl, rfl, rfl, trivial⟩ ?_
  rintro ρ ⟨z1, z2, z3, -⟩
  have b16 : B w14 g1 58 ([.int .i64 code, .string data, vn, .int .i64 nu, .int .i64 a1, .int .i64 a2, .int .i64 a3, .int .i64 a4, .int .i64 a5]) := Hold.blk H7 0 rfl
  have b17 : B w14 g3 66 ([.int .i64 code, .string data, r11, .int .i64 0, .int .i64 0, .int .i64 0, .int .i64 0, .int .i64 0, .int .i64 0]) := Hold.blk H7 2 rfl
  refine rg (r (fa Tryd.underlying58 rfl ti2 rfl z1) (r (ldb Tryd.underlying2 rfl rfl b16 rfl) (r (fa Tryd.underlying66 rfl ti2 rfl z3) (ef0 (xst (vs := [.int .i64 nu]) ti2 rfl rfl (cel1 rfl) b17 rfl (Nat.le_of_ble_eq_true rfl) (one_all rfl)) ?_))))
  rintro w18 ⟨-, b18, c18⟩
  have H8 : Hold w [] w18 [rB g1 58 ([.int .i64 code, .string data, vn, .int .i64 nu, .int .i64 a1, .int .i64 a2, .int .i64 a3, .int .i64 a4, .int .i64 a5]), rB g2 66 ([.int .i64 0, .string ⟨#[]⟩, .slice none 0 0, .int .i64 0, .int .i64 0, .int .i64 0, .int .i64 0, .int .i64 0, .int .i64 0]), rB g3 66 ([.int .i64 code, .string data, r11, .int .i64 nu, .int .i64 0, .int .i64 0, .int .i64 0, .int .i64 0, .int .i64 0]), rR kStr 9 r11 ns] := Hold.setB H7 2 rfl b18 c18 rfl
  clear H7
  clear b18 c18
  have b19 : B w18 g1 58 ([.int .i64 code, .string data, vn, .int .i64 nu, .int .i64 a1, .int .i64 a2, .int .i64 a3, .int .i64 a4, .int .i64 a5]) := Hold.blk H8 0 rfl
  refine re (sq (rg (r (fa Tryd.underlying58 rfl ti56 rfl z1) (r (lab [.int .i64 a1, .int .i64 a2, .int .i64 a3, .int .i64 a4, .int .i64 a5] Tryd.underlying56 rfl ti56 rfl b19 rfl rfl) (cl go68 (toStat) (ac rfl an) ?_)))))
  rintro r ws ⟨rfl, cs⟩
  have H9 : Hold w [] ws [rB g1 58 ([.int .i64 code, .string data, vn, .int .i64 nu, .int .i64 a1, .int .i64 a2, .int .i64 a3, .int .i64 a4, .int .i64 a5]), rB g2 66 ([.int .i64 0, .string ⟨#[]⟩, .slice none 0 0, .int .i64 0, .int .i64 0, .int .i64 0, .int .i64 0, .int .i64 0, .int .i64 0]), rB g3 66 ([.int .i64 code, .string data, r11, .int .i64 nu, .int .i64 0, .int .i64 0, .int .i64 0, .int .i64 0, .int .i64 0]), rR kStr 9 r11 ns] := Hold.t H8 cs
  clear H8
  clear cs
  have b21 : B ws g3 66 ([.int .i64 code, .string data, r11, .int .i64 nu, .int .i64 0, .int .i64 0, .int .i64 0, .int .i64 0, .int .i64 0]) := Hold.blk H9 2 rfl
  refine r (fa Tryd.underlying66 rfl ti64 rfl z3) (ef0 (xst (vs := [.int .i64 a1, .int .i64 a2, .int .i64 a3, .int .i64 a4, .int .i64 a5]) ti64 rfl rfl rfl b21 rfl (Nat.le_of_ble_eq_true rfl) (one_all rfl)) ?_)
  rintro w22 ⟨-, b22, c22⟩
  have H10 : Hold w [] w22 [rB g1 58 ([.int .i64 code, .string data, vn, .int .i64 nu, .int .i64 a1, .int .i64 a2, .int .i64 a3, .int .i64 a4, .int .i64 a5]), rB g2 66 ([.int .i64 0, .string ⟨#[]⟩, .slice none 0 0, .int .i64 0, .int .i64 0, .int .i64 0, .int .i64 0, .int .i64 0, .int .i64 0]), rB g3 66 ([.int .i64 code, .string data, r11, .int .i64 nu, .int .i64 a1, .int .i64 a2, .int .i64 a3, .int .i64 a4, .int .i64 a5]), rR kStr 9 r11 ns] := Hold.setB H9 2 rfl b22 c22 rfl
  clear H9
  clear b22 c22
  have b23 : B w22 g3 66 ([.int .i64 code, .string data, r11, .int .i64 nu, .int .i64 a1, .int .i64 a2, .int .i64 a3, .int .i64 a4, .int .i64 a5]) := Hold.blk H10 2 rfl
  have b24 : B w22 g2 66 ([.int .i64 0, .string ⟨#[]⟩, .slice none 0 0, .int .i64 0, .int .i64 0, .int .i64 0, .int .i64 0, .int .i64 0, .int .i64 0]) := Hold.blk H10 1 rfl
  obtain ⟨_, R26⟩ : ∃ F, Kd.R kStr w22 F r11 ns := Hold.row H10 3 rfl
  refine re (sq (rg (r (lab [.int .i64 code, .string data, r11, .int .i64 nu, .int .i64 a1, .int .i64 a2, .int .i64 a3, .int .i64 a4, .int .i64 a5] Tryd.underlying66 rfl ti66 z3 b23 rfl rfl) (ef0 (xst (vs := [.int .i64 code, .string data, r11, .int .i64 nu, .int .i64 a1, .int .i64 a2, .int .i64 a3, .int .i64 a4, .int .i64 a5]) ti66 z2 rfl rfl b24 rfl (Nat.le_of_ble_eq_true rfl) (oc rfl (oc rfl (oc (R26).oneCell (oc rfl (oc rfl (oc rfl (oc rfl (oc rfl (oc rfl on)))))))))) ?_))))
  rintro w25 ⟨-, b25, c25⟩
  have H11 : Hold w [] w25 [rB g1 58 ([.int .i64 code, .string data, vn, .int .i64 nu, .int .i64 a1, .int .i64 a2, .int .i64 a3, .int .i64 a4, .int .i64 a5]), rB g2 66 ([.int .i64 code, .string data, r11, .int .i64 nu, .int .i64 a1, .int .i64 a2, .int .i64 a3, .int .i64 a4, .int .i64 a5]), rB g3 66 ([.int .i64 code, .string data, r11, .int .i64 nu, .int .i64 a1, .int .i64 a2, .int .i64 a3, .int .i64 a4, .int .i64 a5]), rR kStr 9 r11 ns] := Hold.setB H10 1 rfl b25 c25 rfl
  clear H10
  clear b25 c25
  refine re (rt ?_)
  have b27 : B w25 g2 66 ([.int .i64 code, .string data, r11, .int .i64 nu, .int .i64 a1, .int .i64 a2, .int .i64 a3, .int .i64 a4, .int .i64 a5]) := Hold.blk H11 1 rfl
  have H12 : Hold w [] w25 [rR kStr 9 r11 ns] := (show Hold w [] w25 ([rR kStr 9 r11 ns] ++ [rB g1 58 ([.int .i64 code, .string data, vn, .int .i64 nu, .int .i64 a1, .int .i64 a2, .int .i64 a3, .int .i64 a4, .int .i64 a5]), rB g2 66 ([.int .i64 code, .string data, r11, .int .i64 nu, .int .i64 a1, .int .i64 a2, .int .i64 a3, .int .i64 a4, .int .i64 a5]), rB g3 66 ([.int .i64 code, .string data, r11, .int .i64 nu, .int .i64 a1, .int .i64 a2, .int .i64 a3, .int .i64 a4, .int .i64 a5])]) from Hold.re H11 [3, 0, 1, 2] (by kernel_rfl) (by rfl)).drop
  clear H11
  exact finc  (cs := [.int .i64 code, .string data, r11, .int .i64 nu, .int .i64 a1, .int .i64 a2, .int .i64 a3, .int .i64 a4, .int .i64 a5]) Tryd.results30 Tryd.underlying66 rfl ti66 z2 b27 rfl  ⟨_, rfl, H12⟩
theorem eqStat {w : World} {a1 a2 a3 a4 a5 o1 o2 o3 o4 o5 : Int} : Ret Tryd.prog 73 #[.agg #[.int .i64 a1, .int .i64 a2, .int .i64 a3, .int .i64 a4, .int .i64 a5], .agg #[.int .i64 o1, .int .i64 o2, .int .i64 o3, .int .i64 o4, .int .i64 o5]] w (fun r w' => r = .bool (decide ((a1, a2, a3, a4, a5) = (o1, o2, o3, o4, o5))) ∧ Ch [] w w') := by
  refine enter Tryd.func73 rfl Tryd.ntmps73 (by rfl) (by rfl) ?_
  have H0 : Hold w [] w [] := Hold.start w
  refine sq (rg (ef (xbx (t := 64) rfl rfl) ?_))
  rintro _ w1 ⟨g2, e1, rfl, -, b1, c1⟩
  have H1 : Hold w [] w1 [rB g2 64 ([.int .i64 a1, .int .i64 a2, .int .i64 a3, .int .i64 a4, .int .i64 a5])] := Hold.newB H0 e1 b1 c1
  clear H0
  clear e1 b1 c1
  refine ef (xbx (t := 64) rfl rfl) ?_
  rintro _ w2 ⟨g3, e2, rfl, -, b2, c2⟩
  have H2 : Hold w [] w2 [rB g2 64 ([.int .i64 a1, .int .i64 a2, .int .i64 a3, .int .i64 a4, .int .i64 a5]), rB g3 64 ([.int .i64 o1, .int .i64 o2, .int .i64 o3, .int .i64 o4, .int .i64 o5])] := Hold.newB H1 e2 b2 c2
  clear H1
  clear e2 b2 c2
  have b3 : B w2 g2 64 ([.int .i64 a1, .int .i64 a2, .int .i64 a3, .int .i64 a4, .int .i64 a5]) := Hold.blk H2 0 rfl
  have b4 : B w2 g3 64 ([.int .i64 o1, .int .i64 o2, .int .i64 o3, .int .i64 o4, .int .i64 o5]) := Hold.blk H2 1 rfl
  refine r (sa rfl) (re (sq (sq (rg (r (fa Tryd.underlying64 rfl ti2 rfl rfl) (r (ldb Tryd.underlying2 rfl rfl b3 rfl) (r (fa Tryd.underlying64 rfl ti2 rfl rfl) (r (ldb Tryd.underlying2 rfl rfl b4 rfl) (r (bi rfl rfl rfl) (re ?_))))))))))
  refine cpn rfl (fun h0 => ?_) (fun h0 => ?_)
  · refine sq (rg (r (sa rfl) (re (rt ?_))))
    exact fin1 (v := .bool false) Tryd.results73 rfl ⟨congrArg Value.bool (decide_eq_false (fun e => h0 (by simp only [Prod.mk.injEq] at e; exact e.1))).symm, Hold.ch H2⟩
  · refine sk (sq (sq (rg (r (fa Tryd.underlying64 rfl ti2 rfl rfl) (r (ldb Tryd.underlying2 rfl rfl b3 rfl) (r (fa Tryd.underlying64 rfl ti2 rfl rfl) (r (ldb Tryd.underlying2 rfl rfl b4 rfl) (r (bi rfl rfl rfl) (re ?_)))))))))
    refine cpn rfl (fun h1 => ?_) (fun h1 => ?_)
    · refine sq ?_
      refine gen (fun ρ => ρ 2 = .pointer (some ⟨g2, 0, none⟩) ∧ ρ 3 = .pointer (some ⟨g3, 0, none⟩) ∧ ρ 4 = .bool false ∧ True) ⟨rfl, rfl, rfl, trivial⟩ ?_
      rintro ρ ⟨z2, z3, z4, -⟩
      refine rg (r (sa rfl) (re (rt ?_)))
      exact fin1 (v := .bool false) Tryd.results73 rfl ⟨congrArg Value.bool (decide_eq_false (fun e => h1 (by simp only [Prod.mk.injEq] at e; exact e.2.1))).symm, Hold.ch H2⟩
    · refine sk (sq (sq ?_))
      refine gen (fun ρ => ρ 2 = .pointer (some ⟨g2, 0, none⟩) ∧ ρ 3 = .pointer (some ⟨g3, 0, none⟩) ∧ ρ 4 = .bool false ∧ True) ⟨rfl, rfl, rfl, trivial⟩ ?_
      rintro ρ ⟨z2, z3, z4, -⟩
      refine rg (r (fa Tryd.underlying64 rfl ti2 rfl z2) (r (ldb Tryd.underlying2 rfl rfl b3 rfl) (r (fa Tryd.underlying64 rfl ti2 rfl z3) (r (ldb Tryd.underlying2 rfl rfl b4 rfl) (r (bi rfl rfl rfl) (re ?_))))))
      refine cpn rfl (fun h2 => ?_) (fun h2 => ?_)
      · refine sq (rg (r (sa rfl) (re (rt ?_))))
        exact fin1 (v := .bool false) Tryd.results73 rfl ⟨congrArg Value.bool (decide_eq_false (fun e => h2 (by simp only [Prod.mk.injEq] at e; exact e.2.2.1))).symm, Hold.ch H2⟩
      · refine sk (sq (sq (rg (r (fa Tryd.underlying64 rfl ti2 rfl z2) (r (ldb Tryd.underlying2 rfl rfl b3 rfl) (r (fa Tryd.underlying64 rfl ti2 rfl z3) (r (ldb Tryd.underlying2 rfl rfl b4 rfl) (r (bi rfl rfl rfl) (re ?_)))))))))
        refine cpn rfl (fun h3 => ?_) (fun h3 => ?_)
        · refine sq ?_
          refine gen (fun ρ => ρ 2 = .pointer (some ⟨g2, 0, none⟩) ∧ ρ 3 = .pointer (some ⟨g3, 0, none⟩) ∧ ρ 4 = .bool false ∧ True) ⟨z2, z3, z4, trivial⟩ ?_
          rintro ρ ⟨z2, z3, z4, -⟩
          refine rg (r (sa rfl) (re (rt ?_)))
          exact fin1 (v := .bool false) Tryd.results73 rfl ⟨congrArg Value.bool (decide_eq_false (fun e => h3 (by simp only [Prod.mk.injEq] at e; exact e.2.2.2.1))).symm, Hold.ch H2⟩
        · refine sk (sq (sq ?_))
          refine gen (fun ρ => ρ 2 = .pointer (some ⟨g2, 0, none⟩) ∧ ρ 3 = .pointer (some ⟨g3, 0, none⟩) ∧ ρ 4 = .bool false ∧ True) ⟨z2, z3, z4, trivial⟩ ?_
          rintro ρ ⟨z2, z3, z4, -⟩
          refine rg (r (fa Tryd.underlying64 rfl ti2 rfl z2) (r (ldb Tryd.underlying2 rfl rfl b3 rfl) (r (fa Tryd.underlying64 rfl ti2 rfl z3) (r (ldb Tryd.underlying2 rfl rfl b4 rfl) (r (bi rfl rfl rfl) (re ?_))))))
          refine cpn rfl (fun h4 => ?_) (fun h4 => ?_)
          · refine sq (rg (r (sa rfl) (re (rt ?_))))
            exact fin1 (v := .bool false) Tryd.results73 rfl ⟨congrArg Value.bool (decide_eq_false (fun e => h4 (by simp only [Prod.mk.injEq] at e; exact e.2.2.2.2))).symm, Hold.ch H2⟩
          · refine sk (sq (rg (r (sa rfl) (re (rt ?_)))))
            exact fin1 (v := .bool true) Tryd.results73 rfl ⟨congrArg Value.bool (decide_eq_true (by simp only [Prod.mk.injEq]; refine ⟨?_, ?_, ?_, ?_, ?_⟩ <;> omega)).symm, Hold.ch H2⟩
theorem eqStringS {w : World} {F G : List Nat} {v u : Value} {xs ys : List ByteArray} (hx : kStr.R w F v xs) (hy : kStr.R w G u ys) (lx : xs.length ≤ 1000000000) : Ret Tryd.prog 72 #[v, u] w (fun r w' => r = .bool (decide (xs = ys)) ∧ Ch [] w w') := by
  refine enter Tryd.func72 rfl Tryd.ntmps72 (by rfl) (by rfl) ?_
  have H0 : Hold w [] w [] := Hold.start w
  refine sq (rg (r (sa rfl) (re (sq (sq (rg (r (mv rfl) (r (ln Tryd.underlying54 rfl ((hx.t (Hold.ch H0)))) (r (mv rfl) (r (ln Tryd.underlying54 rfl ((hy.t (Hold.ch H0)))) (r (bi rfl rfl rfl) (re ?_))))))))))))
  refine cpn rfl (fun h => ?_) (fun h => ?_)
  · refine sq (rg (r (sa rfl) (re (rt ?_))))
    exact fin1 (v := .bool false) Tryd.results72 rfl ⟨congrArg Value.bool (decide_eq_false (fun e => h (by rw [e]))).symm, Hold.ch H0⟩
  · have h' : xs.length = ys.length := by omega
    refine sk (sq (sq (rg (r (sa rfl) (re (bl ?_))))))
    refine lp (α := Nat) (fun k ρ w' => ρ 0 = v ∧ ρ 1 = u ∧ ρ 5 = .int .i64 (k : Int) ∧ Hold w [] w' [] ∧ k ≤ xs.length ∧ xs.take k = ys.take k) (fun k => xs.length - k) 0 ?_ ?_
    · exact ⟨rfl, rfl, rfl, H0, ⟨by omega, rfl⟩⟩
    clear H0
    rintro k ρ w501 ⟨y0, y1, y5, H1, hk, ht⟩
    refine sq (sq (rg (r (mv y5) (r (mv y0) (r (ln Tryd.underlying54 rfl ((hx.t (Hold.ch H1)))) (r (bi rfl rfl rfl) (re ?_)))))))
    refine cp rfl (fun hlt => ?_) (fun hlt => ?_)
    · have hlt' : k < xs.length := by omega
      refine sk (sq (bl (sq (rd mixed (by kernel_rfl) (q (mv y0) (q (mv y5) ?_))))))
      obtain ⟨c19_1, ad19_1, k19_1, e19_1, p19_1⟩ := Kd.R.place hx k (by omega)
      refine q (ix (j := k) Tryd.underlying54 ti9 e19_1 rfl (by omega)) (q (ld Tryd.underlying9 rfl rfl (Ch.cell (Hold.ch H1) p19_1.cell)) (q (mv y1) (q (mv y5) ?_)))
      obtain ⟨c23_2, ad23_2, k23_2, e23_2, p23_2⟩ := Kd.R.place hy k ((by omega))
      refine q (ix (j := k) Tryd.underlying54 ti9 e23_2 rfl ((by omega))) (q (ld Tryd.underlying9 rfl rfl (Ch.cell (Hold.ch H1) p23_2.cell)) (q (sne rfl rfl) (me ?_)))
      intro w1 c1
      have H2 : Hold w [] w1 [] := Hold.t H1 c1
      clear H1
      refine cpn rfl (fun hne => ?_) (fun hne => ?_)
      · refine sq ?_
        refine gen (fun ρ => ρ 0 = v ∧ ρ 1 = u ∧ ρ 5 = .int .i64 (k : Int) ∧ True) ⟨y0, y1, y5, trivial⟩ ?_
        rintro ρ ⟨z0, z1, z5, -⟩
        refine rg (r (sa rfl) (re (rt ?_)))
        exact fin1 (v := .bool false) Tryd.results72 rfl ⟨congrArg Value.bool (decide_eq_false (fun e => hne (by subst e; rfl))).symm, Hold.ch H2⟩
      · refine sk (be ?_)
        refine gen (fun ρ => ρ 0 = v ∧ ρ 1 = u ∧ ρ 5 = .int .i64 (k : Int) ∧ True) ⟨y0, y1, y5, trivial⟩ ?_
        rintro ρ ⟨z0, z1, z5, -⟩
        refine rg (r (mv z5) (r (ad (a := (k : Int)) (b := 1) ((k : Int) + 1) rfl rfl (by omega)) (r (sa rfl) (re ?_))))
        exact ag (k + 1) ⟨z0, z1, rfl, H2, ⟨by omega, take_succ' hlt' (by omega) ht (by simpa using hne)⟩⟩ (by first | omega | (dsimp only; omega))
    · refine ex rfl (sq (rg (r (sa rfl) (re (rt ?_)))))
      exact fin1 (v := .bool true) Tryd.results72 rfl ⟨congrArg Value.bool (decide_eq_true (by rw [List.take_of_length_le (by omega), List.take_of_length_le (by omega)] at ht; exact ht)).symm, Hold.ch H1⟩
theorem eqAnswer {w : World} {F G : List Nat} {vn un : Value} {ns ms : List ByteArray} {data data2 : ByteArray} {code nu a1 a2 a3 a4 a5 code2 mu o1 o2 o3 o4 o5 : Int} (hx : kStr.R w F vn ns) (hy : kStr.R w G un ms) (lx : ns.length ≤ 1000000000) : Ret Tryd.prog 32 #[.agg #[.int .i64 code, .string data, vn, .int .i64 nu, .int .i64 a1, .int .i64 a2, .int .i64 a3, .int .i64 a4, .int .i64 a5], .agg #[.int .i64 code2, .string data2, un, .int .i64 mu, .int .i64 o1, .int .i64 o2, .int .i64 o3, .int .i64 o4, .int .i64 o5]] w (fun r w' => r = .bool (decide ((code, data, ns, nu) = (code2, data2, ms, mu) ∧ (a1, a2, a3, a4, a5) = (o1, o2, o3, o4, o5))) ∧ Ch [] w w') := by
  refine enter Tryd.func32 rfl Tryd.ntmps32 (by rfl) (by rfl) ?_
  have H0 : Hold w [] w [] := Hold.start w
  refine sq (rg (ef (xbx (t := 66) rfl rfl) ?_))
  rintro _ w1 ⟨g2, e1, rfl, -, b1, c1⟩
  have H1 : Hold w [] w1 [rB g2 66 ([.int .i64 code, .string data, vn, .int .i64 nu, .int .i64 a1, .int .i64 a2, .int .i64 a3, .int .i64 a4, .int .i64 a5])] := Hold.newB H0 e1 b1 c1
  clear H0
  clear e1 b1 c1
  refine ef (xbx (t := 66) rfl rfl) ?_
  rintro _ w2 ⟨g3, e2, rfl, -, b2, c2⟩
  have H2 : Hold w [] w2 [rB g2 66 ([.int .i64 code, .string data, vn, .int .i64 nu, .int .i64 a1, .int .i64 a2, .int .i64 a3, .int .i64 a4, .int .i64 a5]), rB g3 66 ([.int .i64 code2, .string data2, un, .int .i64 mu, .int .i64 o1, .int .i64 o2, .int .i64 o3, .int .i64 o4, .int .i64 o5])] := Hold.newB H1 e2 b2 c2
  clear H1
  clear e2 b2 c2
  have b3 : B w2 g2 66 ([.int .i64 code, .string data, vn, .int .i64 nu, .int .i64 a1, .int .i64 a2, .int .i64 a3, .int .i64 a4, .int .i64 a5]) := Hold.blk H2 0 rfl
  have b4 : B w2 g3 66 ([.int .i64 code2, .string data2, un, .int .i64 mu, .int .i64 o1, .int .i64 o2, .int .i64 o3, .int .i64 o4, .int .i64 o5]) := Hold.blk H2 1 rfl
  refine r (sa rfl) (re (sq (sq (rg (r (fa Tryd.underlying66 rfl ti2 rfl rfl) (r (ldb Tryd.underlying2 rfl rfl b3 rfl) (r (fa Tryd.underlying66 rfl ti2 rfl rfl) (r (ldb Tryd.underlying2 rfl rfl b4 rfl) (r (bi rfl rfl rfl) (re ?_))))))))))
  refine cpn rfl (fun h1 => ?_) (fun h1 => ?_)
  · refine sq (rg (r (sa rfl) (re (rt ?_))))
    exact fin1 (v := .bool false) Tryd.results32 rfl ⟨congrArg Value.bool (decide_eq_false (fun e => h1 (by simp only [Prod.mk.injEq] at e ⊢; exact e.1.1))).symm, Hold.ch H2⟩
  · refine sk (sq (sq (rg (r (fa Tryd.underlying66 rfl ti9 rfl rfl) (r (ldb Tryd.underlying9 rfl rfl b3 rfl) (r (fa Tryd.underlying66 rfl ti9 rfl rfl) (r (ldb Tryd.underlying9 rfl rfl b4 rfl) (r (sne rfl rfl) (re ?_)))))))))
    refine cpn rfl (fun h2 => ?_) (fun h2 => ?_)
    · refine sq ?_
      refine gen (fun ρ => ρ 2 = .pointer (some ⟨g2, 0, none⟩) ∧ ρ 3 = .pointer (some ⟨g3, 0, none⟩) ∧ ρ 4 = .bool false ∧ True) ⟨rfl, rfl, rfl, trivial⟩ ?_
      rintro ρ ⟨z2, z3, z4, -⟩
      refine rg (r (sa rfl) (re (rt ?_)))
      exact fin1 (v := .bool false) Tryd.results32 rfl ⟨congrArg Value.bool (decide_eq_false (fun e => h2 (by simp only [Prod.mk.injEq] at e ⊢; exact e.1.2.1))).symm, Hold.ch H2⟩
    · refine sk (sq (sq ?_))
      refine gen (fun ρ => ρ 2 = .pointer (some ⟨g2, 0, none⟩) ∧ ρ 3 = .pointer (some ⟨g3, 0, none⟩) ∧ ρ 4 = .bool false ∧ True) ⟨rfl, rfl, rfl, trivial⟩ ?_
      rintro ρ ⟨z2, z3, z4, -⟩
      refine rg (r (fa Tryd.underlying66 rfl ti54 rfl z2) (r (ldb Tryd.underlying54 rfl rfl b3 rfl) (r (fa Tryd.underlying66 rfl ti54 rfl z3) (r (ldb Tryd.underlying54 rfl rfl b4 rfl) (cl go72 (eqStringS (hx.t (Hold.ch H2)) (hy.t (Hold.ch H2)) lx) (ac rfl (ac rfl an)) ?_)))))
      rintro r wq ⟨rfl, cq⟩
      have H3 : Hold w [] wq [rB g2 66 ([.int .i64 code, .string data, vn, .int .i64 nu, .int .i64 a1, .int .i64 a2, .int .i64 a3, .int .i64 a4, .int .i64 a5]), rB g3 66 ([.int .i64 code2, .string data2, un, .int .i64 mu, .int .i64 o1, .int .i64 o2, .int .i64 o3, .int .i64 o4, .int .i64 o5])] := Hold.t H2 cq
      clear H2
      clear cq
      refine r (nt rfl) (re ?_)
      refine cpn rfl (fun h3 => ?_) (fun h3 => ?_)
      · refine sq (rg (r (sa rfl) (re (rt ?_))))
        exact fin1 (v := .bool false) Tryd.results32 rfl ⟨congrArg Value.bool (decide_eq_false (fun e => h3 (by simp only [Prod.mk.injEq] at e ⊢; exact e.1.2.2.1))).symm, Hold.ch H3⟩
      · have b6 : B wq g2 66 ([.int .i64 code, .string data, vn, .int .i64 nu, .int .i64 a1, .int .i64 a2, .int .i64 a3, .int .i64 a4, .int .i64 a5]) := Hold.blk H3 0 rfl
        have b7 : B wq g3 66 ([.int .i64 code2, .string data2, un, .int .i64 mu, .int .i64 o1, .int .i64 o2, .int .i64 o3, .int .i64 o4, .int .i64 o5]) := Hold.blk H3 1 rfl
        refine sk (sq (sq (rg (r (fa Tryd.underlying66 rfl ti2 rfl z2) (r (ldb Tryd.underlying2 rfl rfl b6 rfl) (r (fa Tryd.underlying66 rfl ti2 rfl z3) (r (ldb Tryd.underlying2 rfl rfl b7 rfl) (r (bi rfl rfl rfl) (re ?_)))))))))
        refine cpn rfl (fun h4 => ?_) (fun h4 => ?_)
        · refine sq ?_
          refine gen (fun ρ => ρ 2 = .pointer (some ⟨g2, 0, none⟩) ∧ ρ 3 = .pointer (some ⟨g3, 0, none⟩) ∧ ρ 4 = .bool false ∧ True) ⟨z2, z3, z4, trivial⟩ ?_
          rintro ρ ⟨z2, z3, z4, -⟩
          refine rg (r (sa rfl) (re (rt ?_)))
          exact fin1 (v := .bool false) Tryd.results32 rfl ⟨congrArg Value.bool (decide_eq_false (fun e => h4 (by simp only [Prod.mk.injEq] at e ⊢; exact e.1.2.2.2))).symm, Hold.ch H3⟩
        · refine sk (sq (sq ?_))
          refine gen (fun ρ => ρ 2 = .pointer (some ⟨g2, 0, none⟩) ∧ ρ 3 = .pointer (some ⟨g3, 0, none⟩) ∧ ρ 4 = .bool false ∧ True) ⟨z2, z3, z4, trivial⟩ ?_
          rintro ρ ⟨z2, z3, z4, -⟩
          refine rg (r (fa Tryd.underlying66 rfl ti64 rfl z2) (r (lab [.int .i64 a1, .int .i64 a2, .int .i64 a3, .int .i64 a4, .int .i64 a5] Tryd.underlying64 rfl ti64 rfl b6 rfl rfl) (r (fa Tryd.underlying66 rfl ti64 rfl z3) (r (lab [.int .i64 o1, .int .i64 o2, .int .i64 o3, .int .i64 o4, .int .i64 o5] Tryd.underlying64 rfl ti64 rfl b7 rfl rfl) (cl go73 (eqStat) (ac rfl (ac rfl an)) ?_)))))
          rintro r wr ⟨rfl, cr⟩
          have H4 : Hold w [] wr [rB g2 66 ([.int .i64 code, .string data, vn, .int .i64 nu, .int .i64 a1, .int .i64 a2, .int .i64 a3, .int .i64 a4, .int .i64 a5]), rB g3 66 ([.int .i64 code2, .string data2, un, .int .i64 mu, .int .i64 o1, .int .i64 o2, .int .i64 o3, .int .i64 o4, .int .i64 o5])] := Hold.t H3 cr
          clear H3
          clear cr
          refine r (nt rfl) (re ?_)
          refine cpn rfl (fun h5 => ?_) (fun h5 => ?_)
          · refine sq (rg (r (sa rfl) (re (rt ?_))))
            exact fin1 (v := .bool false) Tryd.results32 rfl ⟨congrArg Value.bool (decide_eq_false (fun e => h5 (by simp only [Prod.mk.injEq] at e ⊢; exact e.2))).symm, Hold.ch H4⟩
          · refine sk (sq (rg (r (sa rfl) (re (rt ?_)))))
            exact fin1 (v := .bool true) Tryd.results32 rfl ⟨congrArg Value.bool (decide_eq_true (by simp only [Prod.mk.injEq] at h5 ⊢; exact ⟨⟨by first | exact h1 | simpa using h1, by first | exact h2 | simpa using h2, by first | exact h3 | simpa using h3, by first | exact h4 | simpa using h4⟩, by first | exact h5 | simpa using h5⟩)).symm, Hold.ch H4⟩
theorem i64_wf {v : Int} (h : (Lit.int .i64 v).wf = true) : i64b v := by
  simp [Lit.wf, IntKind.min, IntKind.max, IntKind.signed, IntKind.bits] at h
  exact ⟨by omega, by omega⟩
theorem w_FnExactFormatAnswer {w : World} {F : List Nat} {vn : Value} {ns : List ByteArray} {nm dt data : ByteArray} {k z code nu a1 a2 a3 a4 a5 : Int} (hx : kStr.R w F vn ns) (l0 : ns.length ≤ 9223372036854775807) (hn : ∀ n, n ∈ ns → n.size ≤ maxLen) (hdm : data.size ≤ maxLen) (h1 : nm.size ≤ maxLen) (h2 : dt.size ≤ maxLen) (hc : i64b code) (hnu : i64b nu) (ha1 : i64b a1) (ha2 : i64b a2) (ha3 : i64b a3) (ha4 : i64b a4) (ha5 : i64b a5) (ht : Go.Lib.TabIs Tryd.prog w "internal/strconv.uint64pow10" .u64 Go.Lib.pow10Tab) :
    Ret Tryd.prog 5 #[.agg #[.int .i64 k, .string nm, .string dt, .int .i64 z], .agg #[.int .i64 code, .string data, vn, .int .i64 nu, .int .i64 a1, .int .i64 a2, .int .i64 a3, .int .i64 a4, .int .i64 a5]] w (fun r w' => r = .bool true ∧ Ch [] w w') := by
  refine enter Tryd.func5 rfl Tryd.ntmps5 (by rfl) (by rfl) ?_
  have H0 : Hold w [] w [] := Hold.start w
  refine sq (rg (ef (xbx (t := 53) rfl rfl) ?_))
  rintro _ w1 ⟨g2, e1, rfl, -, b1, c1⟩
  have H1 : Hold w [] w1 [rB g2 53 ([.int .i64 k, .string nm, .string dt, .int .i64 z])] := Hold.newB H0 e1 b1 c1
  clear H0
  clear e1 b1 c1
  refine ef (xbx (t := 58) rfl rfl) ?_
  rintro _ w2 ⟨g3, e2, rfl, -, b2, c2⟩
  have H2 : Hold w [] w2 [rB g2 53 ([.int .i64 k, .string nm, .string dt, .int .i64 z]), rB g3 58 ([.int .i64 code, .string data, vn, .int .i64 nu, .int .i64 a1, .int .i64 a2, .int .i64 a3, .int .i64 a4, .int .i64 a5])] := Hold.newB H1 e2 b2 c2
  clear H1
  clear e2 b2 c2
  have b3 : B w2 g2 53 ([.int .i64 k, .string nm, .string dt, .int .i64 z]) := Hold.blk H2 0 rfl
  refine r (sa rfl) (re (sq (rg (r (sa rfl) (re (sq (rg (r (lab [.int .i64 k, .string nm, .string dt, .int .i64 z] Tryd.underlying53 rfl ti53 rfl b3 rfl rfl) (r (mv rfl) (cl go26 (szCall h1 h2 (by omega)) (ac rfl (ac rfl an)) ?_))))))))))
  rintro r wz ⟨n, rfl, hn2, cz⟩
  have H3 : Hold w [] wz [rB g2 53 ([.int .i64 k, .string nm, .string dt, .int .i64 z]), rB g3 58 ([.int .i64 code, .string data, vn, .int .i64 nu, .int .i64 a1, .int .i64 a2, .int .i64 a3, .int .i64 a4, .int .i64 a5])] := Hold.t H2 cz
  clear H2
  clear cz
  refine r (sa rfl) (re (sq (sq (rg (r (mv rfl) (r (bi rfl rfl rfl) (re ?_)))))))
  refine cp rfl (fun h => ?_) (fun h => ?_)
  · refine sq ?_
    refine gen (fun ρ => ρ 2 = .pointer (some ⟨g2, 0, none⟩) ∧ ρ 3 = .pointer (some ⟨g3, 0, none⟩) ∧ ρ 4 = .bool false ∧ ρ 5 = .int .i64 n ∧ True) ⟨rfl, rfl, rfl, rfl, trivial⟩ ?_
    rintro ρ ⟨z2, z3, z4, z5, -⟩
    refine rg (r (sa rfl) (re (rt ?_)))
    exact fin1 (v := .bool true) Tryd.results5 rfl ⟨rfl, Hold.ch H3⟩
  · refine sk (sq ?_)
    refine gen (fun ρ => ρ 2 = .pointer (some ⟨g2, 0, none⟩) ∧ ρ 3 = .pointer (some ⟨g3, 0, none⟩) ∧ ρ 4 = .bool false ∧ ρ 5 = .int .i64 n ∧ True) ⟨rfl, rfl, rfl, rfl, trivial⟩ ?_
    rintro ρ ⟨z2, z3, z4, z5, -⟩
    have b5 : B wz g3 58 ([.int .i64 code, .string data, vn, .int .i64 nu, .int .i64 a1, .int .i64 a2, .int .i64 a3, .int .i64 a4, .int .i64 a5]) := Hold.blk H3 1 rfl
    refine rg (r (lab [.int .i64 code, .string data, vn, .int .i64 nu, .int .i64 a1, .int .i64 a2, .int .i64 a3, .int .i64 a4, .int .i64 a5] Tryd.underlying58 rfl ti58 z3 b5 rfl rfl) (r (mv z5) (cl go27 (szAnswer (hx.t (Hold.ch H3)) l0 hn hdm (by omega)) (ac rfl (ac rfl an)) ?_)))
    rintro r wz ⟨m, rfl, hm, cz⟩
    have H4 : Hold w [] wz [rB g2 53 ([.int .i64 k, .string nm, .string dt, .int .i64 z]), rB g3 58 ([.int .i64 code, .string data, vn, .int .i64 nu, .int .i64 a1, .int .i64 a2, .int .i64 a3, .int .i64 a4, .int .i64 a5])] := Hold.t H3 cz
    clear H3
    clear cz
    refine r (sa rfl) (re (sq (sq (rg (r (mv rfl) (r (bi rfl rfl rfl) (re ?_)))))))
    refine cp rfl (fun h3 => ?_) (fun h3 => ?_)
    · refine sq (rg (r (sa rfl) (re (rt ?_))))
      exact fin1 (v := .bool true) Tryd.results5 rfl ⟨rfl, Hold.ch H4⟩
    · have hm2 := hm (by omega)
      have hnl := namesL_str ns
      have lx : ns.length ≤ 1000000000 := by omega
      refine sk (sq ?_)
      refine rde mixed ?_
      intro w7 c7
      have H5 : Hold w [] w7 [rB g2 53 ([.int .i64 k, .string nm, .string dt, .int .i64 z]), rB g3 58 ([.int .i64 code, .string data, vn, .int .i64 nu, .int .i64 a1, .int .i64 a2, .int .i64 a3, .int .i64 a4, .int .i64 a5])] := Hold.t H4 c7
      clear H4
      clear c7
      have H8d0 : Hold w7 [] w7 [] := Hold.start w7
      refine ⟨fun w' => Ch [] w7 w', Ch.refl _ _, ?_⟩
      have b9 : B w7 g2 53 ([.int .i64 k, .string nm, .string dt, .int .i64 z]) := Hold.blk H5 0 rfl
      have b10 : B w7 g3 58 ([.int .i64 code, .string data, vn, .int .i64 nu, .int .i64 a1, .int .i64 a2, .int .i64 a3, .int .i64 a4, .int .i64 a5]) := Hold.blk H5 1 rfl
      refine edt 0 rfl (by kernel_rfl) (fun w' hS => lab [.int .i64 k, .string nm, .string dt, .int .i64 z] Tryd.underlying53 rfl ti53 z2 (hS.b0 b9) rfl rfl) (edt 2 rfl (by kernel_rfl) (fun w' hS => lab [.int .i64 code, .string data, vn, .int .i64 nu, .int .i64 a1, .int .i64 a2, .int .i64 a3, .int .i64 a4, .int .i64 a5] Tryd.underlying58 rfl ti58 z3 (hS.b0 b10) rfl rfl) (ed1 1 (by kernel_rfl) <| euc rfl go29 (ac rfl an) (toCall) ?_))
      rintro r wc11 ⟨rfl, cc11⟩
      have H6d : Hold w7 [] wc11 [] := Hold.t H8d0 cc11
      clear H8d0
      clear cc11
      refine ⟨.inr (Hold.ch H6d), ?_⟩
      refine ed1 3 (by kernel_rfl) <| euc rfl go30 (ac rfl an) (toAnswer_H ((hx.t (Hold.ch H5)).t (Hold.ch H6d)) (by first | assumption | omega | (simp; omega))) ?_
      rintro r wt13 ⟨u13, rfl, Ht13⟩
      have H7d : Hold w7 [] wt13 [rR kStr 9 u13 ns] := Hold.news H6d Ht13
      clear H6d
      clear Ht13
      refine ⟨.inr (Hold.ch H7d), ?_⟩
      obtain ⟨_, R17⟩ : ∃ F, Kd.R kStr wt13 F u13 ns := Hold.row H7d 0 rfl
      refine ed1 4 (by kernel_rfl) <| euc rfl go28 (ac rfl (ac rfl an)) (spec_FormatAnswer R17 hc (by omega) (by omega) (by omega) hnu ha1 ha2 ha3 ha4 ha5) ?_
      rintro r wf15 ⟨rfl, cf15⟩
      have H8d : Hold w7 [] wf15 [rR kStr 9 u13 ns] := Hold.t H7d cf15
      clear H7d
      clear cf15
      refine ⟨.inr (Hold.ch H8d), ?_⟩
      have H9 : Hold w [] wf15 [rB g2 53 ([.int .i64 k, .string nm, .string dt, .int .i64 z]), rB g3 58 ([.int .i64 code, .string data, vn, .int .i64 nu, .int .i64 a1, .int .i64 a2, .int .i64 a3, .int .i64 a4, .int .i64 a5]), rR kStr 9 u13 ns] := Hold.news H5 H8d
      clear H8d H5
      refine ed1 5 (by kernel_rfl) <| eur rfl (sa rfl) (.inl (by kernel_rfl)) ?_
      refine edd (by kernel_rfl) ?_
      refine sq ?_
      refine gen (fun ρ => ρ 2 = .pointer (some ⟨g2, 0, none⟩) ∧ ρ 3 = .pointer (some ⟨g3, 0, none⟩) ∧ ρ 4 = .bool false ∧ ρ 6 = .string (fmtA code k data ns nu a1 a2 a3 a4 a5) ∧ True) ⟨z2, z3, z4, rfl, trivial⟩ ?_
      rintro ρ ⟨z2, z3, z4, z6, -⟩
      have b18 : B wf15 g3 58 ([.int .i64 code, .string data, vn, .int .i64 nu, .int .i64 a1, .int .i64 a2, .int .i64 a3, .int .i64 a4, .int .i64 a5]) := Hold.blk H9 1 rfl
      refine rg (r (lab [.int .i64 code, .string data, vn, .int .i64 nu, .int .i64 a1, .int .i64 a2, .int .i64 a3, .int .i64 a4, .int .i64 a5] Tryd.underlying58 rfl ti58 z3 b18 rfl rfl) (cl go30 (toAnswer_H (hx.t (Hold.ch H9)) (by first | assumption | omega | (simp; omega))) (ac rfl an) ?_))
      rintro r wt19 ⟨u19, rfl, Ht19⟩
      have H10 : Hold w [] wt19 [rB g2 53 ([.int .i64 k, .string nm, .string dt, .int .i64 z]), rB g3 58 ([.int .i64 code, .string data, vn, .int .i64 nu, .int .i64 a1, .int .i64 a2, .int .i64 a3, .int .i64 a4, .int .i64 a5]), rR kStr 9 u13 ns, rR kStr 9 u19 ns] := Hold.news H9 Ht19
      clear H9
      clear Ht19
      refine ef (xal ti66) ?_
      rintro _ w21 ⟨g7, e21, rfl, -, b21, c21⟩
      have H11 : Hold w [] w21 [rB g2 53 ([.int .i64 k, .string nm, .string dt, .int .i64 z]), rB g3 58 ([.int .i64 code, .string data, vn, .int .i64 nu, .int .i64 a1, .int .i64 a2, .int .i64 a3, .int .i64 a4, .int .i64 a5]), rR kStr 9 u13 ns, rR kStr 9 u19 ns, rB g7 66 ([.int .i64 0, .string ⟨#[]⟩, .slice none 0 0, .int .i64 0, .int .i64 0, .int .i64 0, .int .i64 0, .int .i64 0, .int .i64 0])] := Hold.newB H10 e21 b21 c21
      clear H10
      clear e21 b21 c21
      have b22 : B w21 g7 66 ([.int .i64 0, .string ⟨#[]⟩, .slice none 0 0, .int .i64 0, .int .i64 0, .int .i64 0, .int .i64 0, .int .i64 0, .int .i64 0]) := Hold.blk H11 4 rfl
      obtain ⟨_, R24⟩ : ∃ F, Kd.R kStr w21 F u19 ns := Hold.row H11 3 rfl
      refine ef0 (xst (vs := [.int .i64 code, .string data, u19, .int .i64 nu, .int .i64 a1, .int .i64 a2, .int .i64 a3, .int .i64 a4, .int .i64 a5]) ti66 rfl rfl rfl b22 rfl (Nat.le_of_ble_eq_true rfl) (oc rfl (oc rfl (oc (R24).oneCell (oc rfl (oc rfl (oc rfl (oc rfl (oc rfl (oc rfl on)))))))))) ?_
      rintro w23 ⟨-, b23, c23⟩
      have H12 : Hold w [] w23 [rB g2 53 ([.int .i64 k, .string nm, .string dt, .int .i64 z]), rB g3 58 ([.int .i64 code, .string data, vn, .int .i64 nu, .int .i64 a1, .int .i64 a2, .int .i64 a3, .int .i64 a4, .int .i64 a5]), rR kStr 9 u13 ns, rR kStr 9 u19 ns, rB g7 66 ([.int .i64 code, .string data, u19, .int .i64 nu, .int .i64 a1, .int .i64 a2, .int .i64 a3, .int .i64 a4, .int .i64 a5])] := Hold.setB H11 4 rfl b23 c23 rfl
      clear H11
      clear b23 c23
      refine re (sq ?_)
      refine rde mixed ?_
      intro w25 c25
      have H13 : Hold w [] w25 [rB g2 53 ([.int .i64 k, .string nm, .string dt, .int .i64 z]), rB g3 58 ([.int .i64 code, .string data, vn, .int .i64 nu, .int .i64 a1, .int .i64 a2, .int .i64 a3, .int .i64 a4, .int .i64 a5]), rR kStr 9 u13 ns, rR kStr 9 u19 ns, rB g7 66 ([.int .i64 code, .string data, u19, .int .i64 nu, .int .i64 a1, .int .i64 a2, .int .i64 a3, .int .i64 a4, .int .i64 a5])] := Hold.t H12 c25
      clear H12
      clear c25
      have H26d0 : Hold w25 [] w25 [] := Hold.start w25
      refine ⟨fun w' => Ch [] w25 w', Ch.refl _ _, ?_⟩
      have b27 : B w25 g2 53 ([.int .i64 k, .string nm, .string dt, .int .i64 z]) := Hold.blk H13 0 rfl
      have b28 : B w25 g7 66 ([.int .i64 code, .string data, u19, .int .i64 nu, .int .i64 a1, .int .i64 a2, .int .i64 a3, .int .i64 a4, .int .i64 a5]) := Hold.blk H13 4 rfl
      refine edt 0 rfl (by kernel_rfl) (fun w' hS => lab [.int .i64 k, .string nm, .string dt, .int .i64 z] Tryd.underlying53 rfl ti53 z2 (hS.b0 b27) rfl rfl) (edt 2 rfl (by kernel_rfl) (fun w' hS => lab [.int .i64 code, .string data, u19, .int .i64 nu, .int .i64 a1, .int .i64 a2, .int .i64 a3, .int .i64 a4, .int .i64 a5] Tryd.underlying66 rfl ti66 rfl (hS.b0 b28) rfl rfl) (ed1 1 (by kernel_rfl) <| euc rfl go29 (ac rfl an) (toCall) ?_))
      rintro r wc29 ⟨rfl, cc29⟩
      have H14d : Hold w25 [] wc29 [] := Hold.t H26d0 cc29
      clear H26d0
      clear cc29
      refine ⟨.inr (Hold.ch H14d), ?_⟩
      obtain ⟨_, R33⟩ : ∃ F, Kd.R kStr w25 F u19 ns := Hold.row H13 3 rfl
      refine ed1 3 (by kernel_rfl) <| euc rfl go31 (ac rfl (ac rfl an)) (impl_FormatAnswer (R33.t (Hold.ch H14d)) hc (by omega) (by omega) (by omega) hnu ha1 ha2 ha3 ha4 ha5 (tab_ch ht ((Hold.ch H13).t (Hold.ch H14d)))) ?_
      rintro r wf31 ⟨rfl, cf31⟩
      have H15d : Hold w25 [] wf31 [] := Hold.t H14d cf31
      clear H14d
      clear cf31
      refine ⟨.inr (Hold.ch H15d), ?_⟩
      have H16 : Hold w [] wf31 [rB g2 53 ([.int .i64 k, .string nm, .string dt, .int .i64 z]), rB g3 58 ([.int .i64 code, .string data, vn, .int .i64 nu, .int .i64 a1, .int .i64 a2, .int .i64 a3, .int .i64 a4, .int .i64 a5]), rR kStr 9 u13 ns, rR kStr 9 u19 ns, rB g7 66 ([.int .i64 code, .string data, u19, .int .i64 nu, .int .i64 a1, .int .i64 a2, .int .i64 a3, .int .i64 a4, .int .i64 a5])] := Hold.news H13 H15d
      clear H15d H13
      refine ed1 4 (by kernel_rfl) <| eur rfl (sa rfl) (.inl (by kernel_rfl)) ?_
      refine edd (by kernel_rfl) ?_
      refine sq (sq (rg (r (mv rfl) (r (mv z6) (r (sne rfl rfl) (re ?_))))))
      refine cf ((rfl : _ = Value.bool (!decide (fmtA code k data ns nu a1 a2 a3 a4 a5 = fmtA code k data ns nu a1 a2 a3 a4 a5))).trans (congrArg Value.bool (show (!decide (fmtA code k data ns nu a1 a2 a3 a4 a5 = fmtA code k data ns nu a1 a2 a3 a4 a5)) = false from (by rw [decide_eq_true rfl]; rfl)))) ?_
      refine sk (sq (sq ?_))
      refine gen (fun ρ => ρ 3 = .pointer (some ⟨g3, 0, none⟩) ∧ ρ 4 = .bool false ∧ ρ 7 = .pointer (some ⟨g7, 0, none⟩) ∧ True) ⟨z3, z4, rfl, trivial⟩ ?_
      rintro ρ ⟨z3, z4, z7, -⟩
      refine rde mixed ?_
      intro w34 c34
      have H17 : Hold w [] w34 [rB g2 53 ([.int .i64 k, .string nm, .string dt, .int .i64 z]), rB g3 58 ([.int .i64 code, .string data, vn, .int .i64 nu, .int .i64 a1, .int .i64 a2, .int .i64 a3, .int .i64 a4, .int .i64 a5]), rR kStr 9 u13 ns, rR kStr 9 u19 ns, rB g7 66 ([.int .i64 code, .string data, u19, .int .i64 nu, .int .i64 a1, .int .i64 a2, .int .i64 a3, .int .i64 a4, .int .i64 a5])] := Hold.t H16 c34
      clear H16
      clear c34
      have H35d0 : Hold w34 [] w34 [] := Hold.start w34
      refine ⟨fun w' => Ch [] w34 w', Ch.refl _ _, ?_⟩
      have b36 : B w34 g7 66 ([.int .i64 code, .string data, u19, .int .i64 nu, .int .i64 a1, .int .i64 a2, .int .i64 a3, .int .i64 a4, .int .i64 a5]) := Hold.blk H17 4 rfl
      have b37 : B w34 g3 58 ([.int .i64 code, .string data, vn, .int .i64 nu, .int .i64 a1, .int .i64 a2, .int .i64 a3, .int .i64 a4, .int .i64 a5]) := Hold.blk H17 1 rfl
      refine edt 0 rfl (by kernel_rfl) (fun w' hS => lab [.int .i64 code, .string data, u19, .int .i64 nu, .int .i64 a1, .int .i64 a2, .int .i64 a3, .int .i64 a4, .int .i64 a5] Tryd.underlying66 rfl ti66 z7 (hS.b0 b36) rfl rfl) (edt 1 rfl (by kernel_rfl) (fun w' hS => lab [.int .i64 code, .string data, vn, .int .i64 nu, .int .i64 a1, .int .i64 a2, .int .i64 a3, .int .i64 a4, .int .i64 a5] Tryd.underlying58 rfl ti58 z3 (hS.b0 b37) rfl rfl) (ed1 2 (by kernel_rfl) <| euc rfl go30 (ac rfl an) (toAnswer_H ((hx.t (Hold.ch H17)).t (Hold.ch H35d0)) (by first | assumption | omega | (simp; omega))) ?_))
      rintro r wt38 ⟨u38, rfl, Ht38⟩
      have H18d : Hold w34 [] wt38 [rR kStr 9 u38 ns] := Hold.news H35d0 Ht38
      clear H35d0
      clear Ht38
      refine ⟨.inr (Hold.ch H18d), ?_⟩
      obtain ⟨_, R42⟩ : ∃ F, Kd.R kStr w34 F u19 ns := Hold.row H17 3 rfl
      obtain ⟨_, R43⟩ : ∃ F, Kd.R kStr wt38 F u38 ns := Hold.row H18d 0 rfl
      refine ed1 3 (by kernel_rfl) <| euc rfl go32 (ac rfl (ac rfl an)) (eqAnswer (R42.t (Hold.ch H18d)) R43 (by first | assumption | omega | (simp; omega))) ?_
      rintro r wq40 ⟨rfl, cq40⟩
      have H19d : Hold w34 [] wq40 [rR kStr 9 u38 ns] := Hold.t H18d cq40
      clear H18d
      clear cq40
      refine ⟨.inr (Hold.ch H19d), ?_⟩
      have H20 : Hold w [] wq40 [rB g2 53 ([.int .i64 k, .string nm, .string dt, .int .i64 z]), rB g3 58 ([.int .i64 code, .string data, vn, .int .i64 nu, .int .i64 a1, .int .i64 a2, .int .i64 a3, .int .i64 a4, .int .i64 a5]), rR kStr 9 u13 ns, rR kStr 9 u19 ns, rB g7 66 ([.int .i64 code, .string data, u19, .int .i64 nu, .int .i64 a1, .int .i64 a2, .int .i64 a3, .int .i64 a4, .int .i64 a5]), rR kStr 9 u38 ns] := Hold.news H17 H19d
      clear H19d H17
      refine ed1 4 (by kernel_rfl) <| eur rfl (nt rfl) (.inl (by kernel_rfl)) ?_
      refine edd (by kernel_rfl) ?_
      refine cf ((rfl : _ = Value.bool (!(decide ((code, data, ns, nu) = (code, data, ns, nu) ∧ (a1, a2, a3, a4, a5) = (a1, a2, a3, a4, a5))))).trans (congrArg Value.bool (show (!(decide ((code, data, ns, nu) = (code, data, ns, nu) ∧ (a1, a2, a3, a4, a5) = (a1, a2, a3, a4, a5)))) = false from (by rw [decide_eq_true ⟨rfl, rfl⟩]; rfl)))) ?_
      refine sk (sq (rg (r (sa rfl) (re (rt ?_)))))
      exact fin1 (v := .bool true) Tryd.results5 rfl ⟨rfl, Hold.ch H20⟩
theorem tabOf {W : World} {x y : String × DataW Unit} {d : DataW Unit} {r : List (String × DataW Unit)} (hd : d = Lib.tabData .u64 Lib.pow10Tab) (h : laidMet Tryd.prog (x :: y :: ("internal/strconv.uint64pow10", d) :: r) W) : Lib.TabIs Tryd.prog W "internal/strconv.uint64pow10" .u64 Lib.pow10Tab := by
  subst hd
  exact Lib.tabIs_of_head (g := 0) (t := 188) (e := 173) (n := 20) (by kernel_rfl) (by kernel_rfl) Tryd.underlying188 Tryd.underlying173 (by kernel_rfl) (by kernel_rfl) h.tail.tail
end Go.Proofs.YtgpcanjmgdmdhaaDoor
