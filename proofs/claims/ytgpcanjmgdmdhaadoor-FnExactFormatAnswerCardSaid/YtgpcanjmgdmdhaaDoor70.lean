/-
  CONTRACTS 70: numbers as decimal texts; words. No condition.
-/
import Derived.Test.YtgpcanjmgdmdhaaDoor63
import Derived.Test.YtgpcanjmgdmdhaaDoorStr
import Derived.Test.YtgpcanjmgdmdhaaDoorShelf
import Derived.Lib.ItoaLen
namespace Go.Proofs.YtgpcanjmgdmdhaaDoor
open Go Go.Eng
set_option maxRecDepth 100000
set_option maxHeartbeats 4000000
set_option linter.unusedVariables false
set_option linter.unusedSimpArgs false
/-- A number's decimal text. -/
def decB (v : Int) : ByteArray := ⟨(Go.Lib.itoa v).toArray⟩
theorem decB_data (v : Int) : (decB v).data.toList = Go.Lib.itoa v := by simp [decB]
theorem decB_size (v : Int) (h : -9223372036854775808 ≤ v ∧ v ≤ 9223372036854775807) : (decB v).size ≤ 21 := by
  have := Go.Lib.itoa_length_le v h.1 h.2
  have e := congrArg List.length (decB_data v)
  rw [Array.length_toList] at e
  show (decB v).data.size ≤ 21
  omega
theorem app_data (a b : ByteArray) : (a ++ b).data.toList = a.data.toList ++ b.data.toList := by rw [ByteArray.data_append, Array.toList_append]
theorem dd_small {u : Nat} (h : u < 10) : Go.Lib.decDigits u = [UInt8.ofNat (48 + u)] := by rw [Go.Lib.decDigits, dif_pos h]
theorem dd_big {u : Nat} (h : ¬ u < 10) : Go.Lib.decDigits u = Go.Lib.decDigits (u / 10) ++ [UInt8.ofNat (48 + u % 10)] := by rw [Go.Lib.decDigits, dif_neg h]
theorem decB_neg {v : Int} (h : v < 0) : decB v = (⟨#[45]⟩ : ByteArray) ++ decB (-v) := by
  apply ba_ext
  rw [app_data, decB_data, decB_data, Go.Lib.itoa, if_pos h, Go.Lib.itoa, if_neg (by omega)]
  show _ = [45] ++ _
  rw [show (-v).toNat = v.natAbs by omega]; rfl
theorem decB_neg2 {v : Int} (h : v ≤ -10) : decB v = decB (v.tdiv 10) ++ mkS [48 - v.tmod 10] := by
  obtain ⟨u, rfl⟩ : ∃ u : Nat, v = -(u : Int) := ⟨v.natAbs, by omega⟩
  have e1 : (-(u : Int)).tdiv 10 = -((u / 10 : Nat) : Int) := by rw [Int.neg_tdiv, Int.tdiv_eq_ediv_of_nonneg (by omega)]; rfl
  have e2 : (-(u : Int)).tmod 10 = -((u % 10 : Nat) : Int) := by rw [Int.neg_tmod, Int.tmod_eq_emod_of_nonneg (by omega)]; rfl
  apply ba_ext
  rw [app_data, decB_data, decB_data, e1, e2, mkS_data, Go.Lib.itoa_neg u (by omega), Go.Lib.itoa_neg (u / 10) (by omega), dd_big (u := u) (by omega)]
  simp only [List.map_cons, List.map_nil, List.cons_append]
  congr 5
  omega
theorem decB_one {v : Int} (h : 0 ≤ v ∧ v < 10) : decB v = mkS [48 + v] := by
  obtain ⟨u, rfl⟩ : ∃ u : Nat, v = (u : Int) := ⟨v.natAbs, by omega⟩
  apply ba_ext
  rw [decB_data, mkS_data, Go.Lib.itoa_nonneg, dd_small (by omega)]
  simp only [List.map_cons, List.map_nil]
  congr 2
theorem decB_big {v : Int} (h : 10 ≤ v) : decB v = decB (v.tdiv 10) ++ mkS [48 + v.tmod 10] := by
  obtain ⟨u, rfl⟩ : ∃ u : Nat, v = (u : Int) := ⟨v.natAbs, by omega⟩
  have e1 : ((u : Int)).tdiv 10 = ((u / 10 : Nat) : Int) := by rw [Int.tdiv_eq_ediv_of_nonneg (by omega)]; rfl
  have e2 : ((u : Int)).tmod 10 = ((u % 10 : Nat) : Int) := by rw [Int.tmod_eq_emod_of_nonneg (by omega)]; rfl
  apply ba_ext
  rw [app_data, decB_data, decB_data, e1, e2, mkS_data, Go.Lib.itoa_nonneg, Go.Lib.itoa_nonneg, dd_big (u := u) (by omega)]
  simp only [List.map_cons, List.map_nil]
  congr 3
abbrev i64b (v : Int) : Prop := -9223372036854775808 ≤ v ∧ v ≤ 9223372036854775807
/-- A word and numbers behind it. -/
def say (s : ByteArray) (ns : List Int) : ByteArray := ns.foldl (fun s n => s ++ ((⟨#[32]⟩ : ByteArray) ++ decB n)) s
theorem say_snoc (s : ByteArray) (ns : List Int) (n : Int) : say s (ns ++ [n]) = say s ns ++ ((⟨#[32]⟩ : ByteArray) ++ decB n) := by simp [say]
theorem say_take {s : ByteArray} {ns : List Int} {i : Nat} (h : i < ns.length) : say s (ns.take (i + 1)) = say s (ns.take i) ++ ((⟨#[32]⟩ : ByteArray) ++ decB ns[i]) := by
  rw [List.take_succ_eq_append_getElem h, say_snoc]
theorem ba_app_size (a b : ByteArray) : (a ++ b).size = a.size + b.size := by simp [ByteArray.size_append]
theorem say_size {s : ByteArray} {ns : List Int} (h : ∀ n, n ∈ ns → i64b n) : (say s ns).size ≤ s.size + 22 * ns.length := by
  have : ∀ i, i ≤ ns.length → (say s (ns.take i)).size ≤ s.size + 22 * i := by
    intro i
    induction i with
    | zero => intro _; simp [say]
    | succ i ih =>
      intro hi
      have h1 := ih (by omega)
      have h2 := decB_size _ (h _ (List.getElem_mem (show i < ns.length by omega)))
      rw [say_take (by omega), ba_app_size, ba_app_size]
      have : (⟨#[32]⟩ : ByteArray).size = 1 := rfl
      omega
  have := this ns.length (Nat.le_refl _)
  rwa [List.take_length] at this
theorem l6Dec_n (m : Nat) (v : Int) (ih : ∀ (k : Nat) (w : World) (u : Int), k < m → u.natAbs = k → i64b u → (0 ≤ v → 0 ≤ u) → Ret Tryd.prog 94 #[.int .i64 u] w (fun r w' => r = .string (decB u) ∧ Ch [] w w')) (w : World) (hm : v.natAbs = m) (hv : i64b v)
    (ip : v < 0 → ∀ w : World, Ret Tryd.prog 94 #[.int .i64 (-v)] w (fun r w' => r = .string (decB (-v)) ∧ Ch [] w w') ∨ v ≤ -10) :
    Ret Tryd.prog 94 #[.int .i64 v] w (fun r w' => r = .string (decB v) ∧ Ch [] w w') := by
  refine enter Tryd.func94 rfl Tryd.ntmps94 (by rfl) (by rfl) ?_
  have H0 : Hold w [] w [] := Hold.start w
  have h45 : (⟨#[45]⟩ : ByteArray).size = 1 := rfl
  refine sq (rg (r (sa rfl) (re (sq (sq (rg (r (mv rfl) (r (bi rfl rfl rfl) (re ?_)))))))))
  refine cp rfl (fun hneg => ?_) (fun hneg => ?_)
  · refine sq (sq (rg (r (mv rfl) (r (bi rfl rfl rfl) (re ?_)))))
    refine cp rfl (fun h10 => ?_) (fun h10 => ?_)
    · have hb := decB_size (-v) ⟨by omega, by omega⟩
      have ip2 := fun w9 => (ip hneg w9).resolve_right (by omega)
      refine sq (rg (r (mv rfl) (r (ng (-v) rfl (IntWalk.i64_in _ (by omega))) (cl go94 (ip2 _) (ac rfl an) ?_))))
      rintro r wr ⟨rfl, cr⟩
      have H1 : Hold w [] wr [] := Hold.t H0 cr
      clear H0
      clear cr
      refine r (sct rfl rfl (by omega)) (r (sa rfl) (re (rt ?_)))
      exact fin1 (v := .string ((⟨#[45]⟩ : ByteArray) ++ (decB (-v)))) Tryd.results94 rfl ⟨congrArg Value.string (decB_neg hneg).symm, Hold.ch H1⟩
    · have hd : v.tdiv 10 = -((v.natAbs / 10 : Nat) : Int) := by
        obtain ⟨u, rfl⟩ : ∃ u : Nat, v = -(u : Int) := ⟨v.natAbs, by omega⟩
        rw [Int.neg_tdiv, Int.tdiv_eq_ediv_of_nonneg (by omega)]; simp
      have hr : v.tmod 10 = -((v.natAbs % 10 : Nat) : Int) := by
        obtain ⟨u, rfl⟩ : ∃ u : Nat, v = -(u : Int) := ⟨v.natAbs, by omega⟩
        rw [Int.neg_tmod, Int.tmod_eq_emod_of_nonneg (by omega)]; simp
      have hb := decB_size (v.tdiv 10) ⟨by omega, by omega⟩
      refine sk (sq ?_)
      refine rde mixed ?_
      intro w1 c1
      have H1 : Hold w [] w1 [] := Hold.t H0 c1
      clear H0
      clear c1
      have H2d0 : Hold w1 [] w1 [] := Hold.start w1
      refine ⟨fun w' => Ch [] w1 w', Ch.refl _ _, ?_⟩
      refine edt 0 rfl (by kernel_rfl) (fun w' hS => mv rfl) (edt 1 rfl (by kernel_rfl) (fun w' hS => dv (a := v) (b := 10) (v.tdiv 10) rfl rfl ⟨by omega, rfl, by omega, by omega⟩) (edt 3 rfl (by kernel_rfl) (fun w' hS => mv rfl) (edt 4 rfl (by kernel_rfl) (fun w' hS => rm (a := v) (b := 10) (v.tmod 10) rfl rfl ⟨by omega, rfl⟩) (edt 5 rfl (by kernel_rfl) (fun w' hS => sb (a := 48) (b := v.tmod 10) (48 - (v.tmod 10)) rfl rfl (by omega)) (edt 6 rfl (by kernel_rfl) (fun w' hS => cv (48 - v.tmod 10) Tryd.underlying2 Tryd.underlying5 rfl (by rw [u8_in] <;> omega)) ?_)))))
      refine ed2 2 7 (by kernel_rfl) ?_ ?_
      · refine euc rfl go94 (ac rfl an) (ih (v.tdiv 10).natAbs _ (v.tdiv 10) (by omega) rfl ⟨by omega, by omega⟩ (by omega)) ?_
        rintro r wr ⟨rfl, cr⟩
        have H2d : Hold w1 [] wr [] := Hold.t H2d0 cr
        clear H2d0
        clear cr
        refine ⟨.inr (Hold.ch H2d), ?_⟩
        refine ed1 7 (by kernel_rfl) <| euf rfl (bsm (cs := [.int .u8 (48 - v.tmod 10)]) Tryd.underlying22 ti5 rfl (by rfl) (pc rfl (cel1 rfl) pn) rfl) ?_
        rintro _ w4 ⟨g18, e4, rfl, -, b4, c4⟩
        have H3d : Hold w1 [] w4 [rB g18 5 ([.int .u8 (48 - v.tmod 10)])] := Hold.newB H2d e4 b4 c4
        clear H2d
        clear e4 b4 c4
        refine ⟨.inr (Hold.ch H3d), ?_⟩
        have b5 : B w4 g18 5 ([.int .u8 (48 - v.tmod 10)]) := Hold.blk H3d 0 rfl
        refine ed1 8 (by kernel_rfl) <| eur rfl (cvbs Tryd.underlying22 Tryd.underlying5 Tryd.underlying9 (row_of_B (dk := u8) (xs := [48 - v.tmod 10]) b5 (els_int [48 - v.tmod 10]) (Nat.le_of_ble_eq_true rfl)).R rfl) (.inr (Hold.ch H3d)) ?_
        refine edt 9 rfl (by kernel_rfl) (fun w' hS => sct rfl rfl (by simp only [mkS_size, List.length_singleton]; omega)) ?_
        have H4 : Hold w [] w4 [rB g18 5 ([.int .u8 (48 - v.tmod 10)])] := Hold.news H1 H3d
        clear H3d H1
        refine ed1 10 (by kernel_rfl) <| eur rfl (sa rfl) (.inl (by kernel_rfl)) ?_
        refine edd (by kernel_rfl) ?_
        refine rt ?_
        exact fin1 (v := .string ((decB (v.tdiv 10)) ++ (mkS ([48 - v.tmod 10])))) Tryd.results94 rfl ⟨congrArg Value.string (decB_neg2 (by omega)).symm, Hold.ch H4⟩
      · refine euf rfl (bsm (cs := [.int .u8 (48 - v.tmod 10)]) Tryd.underlying22 ti5 rfl (by rfl) (pc rfl (cel1 rfl) pn) rfl) ?_
        rintro _ w3 ⟨g18, e3, rfl, -, b3, c3⟩
        have H2d : Hold w1 [] w3 [rB g18 5 ([.int .u8 (48 - v.tmod 10)])] := Hold.newB H2d0 e3 b3 c3
        clear H2d0
        clear e3 b3 c3
        refine ⟨.inr (Hold.ch H2d), ?_⟩
        refine ed2 2 8 (by kernel_rfl) ?_ ?_
        · refine euc rfl go94 (ac rfl an) (ih (v.tdiv 10).natAbs _ (v.tdiv 10) (by omega) rfl ⟨by omega, by omega⟩ (by omega)) ?_
          rintro r wr ⟨rfl, cr⟩
          have H3d : Hold w1 [] wr [rB g18 5 ([.int .u8 (48 - v.tmod 10)])] := Hold.t H2d cr
          clear H2d
          clear cr
          refine ⟨.inr (Hold.ch H3d), ?_⟩
          have b5 : B wr g18 5 ([.int .u8 (48 - v.tmod 10)]) := Hold.blk H3d 0 rfl
          refine ed1 8 (by kernel_rfl) <| eur rfl (cvbs Tryd.underlying22 Tryd.underlying5 Tryd.underlying9 (row_of_B (dk := u8) (xs := [48 - v.tmod 10]) b5 (els_int [48 - v.tmod 10]) (Nat.le_of_ble_eq_true rfl)).R rfl) (.inr (Hold.ch H3d)) ?_
          refine edt 9 rfl (by kernel_rfl) (fun w' hS => sct rfl rfl (by simp only [mkS_size, List.length_singleton]; omega)) ?_
          have H4 : Hold w [] wr [rB g18 5 ([.int .u8 (48 - v.tmod 10)])] := Hold.news H1 H3d
          clear H3d H1
          refine ed1 10 (by kernel_rfl) <| eur rfl (sa rfl) (.inl (by kernel_rfl)) ?_
          refine edd (by kernel_rfl) ?_
          refine rt ?_
          exact fin1 (v := .string ((decB (v.tdiv 10)) ++ (mkS ([48 - v.tmod 10])))) Tryd.results94 rfl ⟨congrArg Value.string (decB_neg2 (by omega)).symm, Hold.ch H4⟩
        · have b4 : B w3 g18 5 ([.int .u8 (48 - v.tmod 10)]) := Hold.blk H2d 0 rfl
          refine eur rfl (cvbs Tryd.underlying22 Tryd.underlying5 Tryd.underlying9 (row_of_B (dk := u8) (xs := [48 - v.tmod 10]) b4 (els_int [48 - v.tmod 10]) (Nat.le_of_ble_eq_true rfl)).R rfl) (.inr (Hold.ch H2d)) ?_
          refine ed1 2 (by kernel_rfl) <| euc rfl go94 (ac rfl an) (ih (v.tdiv 10).natAbs _ (v.tdiv 10) (by omega) rfl ⟨by omega, by omega⟩ (by omega)) ?_
          rintro r wr ⟨rfl, cr⟩
          have H3d : Hold w1 [] wr [rB g18 5 ([.int .u8 (48 - v.tmod 10)])] := Hold.t H2d cr
          clear H2d
          clear cr
          refine ⟨.inr (Hold.ch H3d), ?_⟩
          refine edt 9 rfl (by kernel_rfl) (fun w' hS => sct rfl rfl (by simp only [mkS_size, List.length_singleton]; omega)) ?_
          have H4 : Hold w [] wr [rB g18 5 ([.int .u8 (48 - v.tmod 10)])] := Hold.news H1 H3d
          clear H3d H1
          refine ed1 10 (by kernel_rfl) <| eur rfl (sa rfl) (.inl (by kernel_rfl)) ?_
          refine edd (by kernel_rfl) ?_
          refine rt ?_
          exact fin1 (v := .string ((decB (v.tdiv 10)) ++ (mkS ([48 - v.tmod 10])))) Tryd.results94 rfl ⟨congrArg Value.string (decB_neg2 (by omega)).symm, Hold.ch H4⟩
  · refine sk (sq (sq (rg (r (mv rfl) (r (bi rfl rfl rfl) (re ?_))))))
    refine cp rfl (fun h10 => ?_) (fun h10 => ?_)
    · refine sq (rg (r (mv rfl) (r (ad (a := 48) (b := v) (48 + v) rfl rfl (by omega)) (r (cv (48 + v) Tryd.underlying2 Tryd.underlying5 rfl (by rw [u8_in] <;> omega)) (ef (bsm (cs := [.int .u8 (48 + v)]) Tryd.underlying22 ti5 rfl (by rfl) (pc rfl (cel1 rfl) pn) rfl) ?_)))))
      rintro _ w1 ⟨g26, e1, rfl, -, b1, c1⟩
      have H1 : Hold w [] w1 [rB g26 5 ([.int .u8 (48 + v)])] := Hold.newB H0 e1 b1 c1
      clear H0
      clear e1 b1 c1
      have b2 : B w1 g26 5 ([.int .u8 (48 + v)]) := Hold.blk H1 0 rfl
      refine r (cvbs Tryd.underlying22 Tryd.underlying5 Tryd.underlying9 (row_of_B (dk := u8) (xs := [48 + v]) b2 (els_int [48 + v]) (Nat.le_of_ble_eq_true rfl)).R rfl) (r (sa rfl) (re (rt ?_)))
      exact fin1 (v := .string (mkS ([48 + v]))) Tryd.results94 rfl ⟨congrArg Value.string (decB_one ⟨by omega, h10⟩).symm, Hold.ch H1⟩
    · have hd : v.tdiv 10 = v / 10 := by rw [Int.tdiv_eq_ediv_of_nonneg (by omega)]
      have hr : v.tmod 10 = v % 10 := by rw [Int.tmod_eq_emod_of_nonneg (by omega)]
      have hb := decB_size (v.tdiv 10) ⟨by omega, by omega⟩
      refine sk (sq ?_)
      refine rde mixed ?_
      intro w1 c1
      have H1 : Hold w [] w1 [] := Hold.t H0 c1
      clear H0
      clear c1
      have H2d0 : Hold w1 [] w1 [] := Hold.start w1
      refine ⟨fun w' => Ch [] w1 w', Ch.refl _ _, ?_⟩
      refine edt 0 rfl (by kernel_rfl) (fun w' hS => mv rfl) (edt 1 rfl (by kernel_rfl) (fun w' hS => dv (a := v) (b := 10) (v.tdiv 10) rfl rfl ⟨by omega, rfl, by omega, by omega⟩) (edt 3 rfl (by kernel_rfl) (fun w' hS => mv rfl) (edt 4 rfl (by kernel_rfl) (fun w' hS => rm (a := v) (b := 10) (v.tmod 10) rfl rfl ⟨by omega, rfl⟩) (edt 5 rfl (by kernel_rfl) (fun w' hS => ad (a := 48) (b := v.tmod 10) (48 + v.tmod 10) rfl rfl (by omega)) (edt 6 rfl (by kernel_rfl) (fun w' hS => cv (48 + v.tmod 10) Tryd.underlying2 Tryd.underlying5 rfl (by rw [u8_in] <;> omega)) ?_)))))
      refine ed2 2 7 (by kernel_rfl) ?_ ?_
      · refine euc rfl go94 (ac rfl an) (ih (v.tdiv 10).natAbs _ (v.tdiv 10) (by omega) rfl ⟨by omega, by omega⟩ (by omega)) ?_
        rintro r wr ⟨rfl, cr⟩
        have H2d : Hold w1 [] wr [] := Hold.t H2d0 cr
        clear H2d0
        clear cr
        refine ⟨.inr (Hold.ch H2d), ?_⟩
        refine ed1 7 (by kernel_rfl) <| euf rfl (bsm (cs := [.int .u8 (48 + v.tmod 10)]) Tryd.underlying22 ti5 rfl (by rfl) (pc rfl (cel1 rfl) pn) rfl) ?_
        rintro _ w4 ⟨g35, e4, rfl, -, b4, c4⟩
        have H3d : Hold w1 [] w4 [rB g35 5 ([.int .u8 (48 + v.tmod 10)])] := Hold.newB H2d e4 b4 c4
        clear H2d
        clear e4 b4 c4
        refine ⟨.inr (Hold.ch H3d), ?_⟩
        have b5 : B w4 g35 5 ([.int .u8 (48 + v.tmod 10)]) := Hold.blk H3d 0 rfl
        refine ed1 8 (by kernel_rfl) <| eur rfl (cvbs Tryd.underlying22 Tryd.underlying5 Tryd.underlying9 (row_of_B (dk := u8) (xs := [48 + v.tmod 10]) b5 (els_int [48 + v.tmod 10]) (Nat.le_of_ble_eq_true rfl)).R rfl) (.inr (Hold.ch H3d)) ?_
        refine edt 9 rfl (by kernel_rfl) (fun w' hS => sct rfl rfl (by simp only [mkS_size, List.length_singleton]; omega)) ?_
        have H4 : Hold w [] w4 [rB g35 5 ([.int .u8 (48 + v.tmod 10)])] := Hold.news H1 H3d
        clear H3d H1
        refine ed1 10 (by kernel_rfl) <| eur rfl (sa rfl) (.inl (by kernel_rfl)) ?_
        refine edd (by kernel_rfl) ?_
        refine rt ?_
        exact fin1 (v := .string ((decB (v.tdiv 10)) ++ (mkS ([48 + v.tmod 10])))) Tryd.results94 rfl ⟨congrArg Value.string (decB_big (by omega)).symm, Hold.ch H4⟩
      · refine euf rfl (bsm (cs := [.int .u8 (48 + v.tmod 10)]) Tryd.underlying22 ti5 rfl (by rfl) (pc rfl (cel1 rfl) pn) rfl) ?_
        rintro _ w3 ⟨g35, e3, rfl, -, b3, c3⟩
        have H2d : Hold w1 [] w3 [rB g35 5 ([.int .u8 (48 + v.tmod 10)])] := Hold.newB H2d0 e3 b3 c3
        clear H2d0
        clear e3 b3 c3
        refine ⟨.inr (Hold.ch H2d), ?_⟩
        refine ed2 2 8 (by kernel_rfl) ?_ ?_
        · refine euc rfl go94 (ac rfl an) (ih (v.tdiv 10).natAbs _ (v.tdiv 10) (by omega) rfl ⟨by omega, by omega⟩ (by omega)) ?_
          rintro r wr ⟨rfl, cr⟩
          have H3d : Hold w1 [] wr [rB g35 5 ([.int .u8 (48 + v.tmod 10)])] := Hold.t H2d cr
          clear H2d
          clear cr
          refine ⟨.inr (Hold.ch H3d), ?_⟩
          have b5 : B wr g35 5 ([.int .u8 (48 + v.tmod 10)]) := Hold.blk H3d 0 rfl
          refine ed1 8 (by kernel_rfl) <| eur rfl (cvbs Tryd.underlying22 Tryd.underlying5 Tryd.underlying9 (row_of_B (dk := u8) (xs := [48 + v.tmod 10]) b5 (els_int [48 + v.tmod 10]) (Nat.le_of_ble_eq_true rfl)).R rfl) (.inr (Hold.ch H3d)) ?_
          refine edt 9 rfl (by kernel_rfl) (fun w' hS => sct rfl rfl (by simp only [mkS_size, List.length_singleton]; omega)) ?_
          have H4 : Hold w [] wr [rB g35 5 ([.int .u8 (48 + v.tmod 10)])] := Hold.news H1 H3d
          clear H3d H1
          refine ed1 10 (by kernel_rfl) <| eur rfl (sa rfl) (.inl (by kernel_rfl)) ?_
          refine edd (by kernel_rfl) ?_
          refine rt ?_
          exact fin1 (v := .string ((decB (v.tdiv 10)) ++ (mkS ([48 + v.tmod 10])))) Tryd.results94 rfl ⟨congrArg Value.string (decB_big (by omega)).symm, Hold.ch H4⟩
        · have b4 : B w3 g35 5 ([.int .u8 (48 + v.tmod 10)]) := Hold.blk H2d 0 rfl
          refine eur rfl (cvbs Tryd.underlying22 Tryd.underlying5 Tryd.underlying9 (row_of_B (dk := u8) (xs := [48 + v.tmod 10]) b4 (els_int [48 + v.tmod 10]) (Nat.le_of_ble_eq_true rfl)).R rfl) (.inr (Hold.ch H2d)) ?_
          refine ed1 2 (by kernel_rfl) <| euc rfl go94 (ac rfl an) (ih (v.tdiv 10).natAbs _ (v.tdiv 10) (by omega) rfl ⟨by omega, by omega⟩ (by omega)) ?_
          rintro r wr ⟨rfl, cr⟩
          have H3d : Hold w1 [] wr [rB g35 5 ([.int .u8 (48 + v.tmod 10)])] := Hold.t H2d cr
          clear H2d
          clear cr
          refine ⟨.inr (Hold.ch H3d), ?_⟩
          refine edt 9 rfl (by kernel_rfl) (fun w' hS => sct rfl rfl (by simp only [mkS_size, List.length_singleton]; omega)) ?_
          have H4 : Hold w [] wr [rB g35 5 ([.int .u8 (48 + v.tmod 10)])] := Hold.news H1 H3d
          clear H3d H1
          refine ed1 10 (by kernel_rfl) <| eur rfl (sa rfl) (.inl (by kernel_rfl)) ?_
          refine edd (by kernel_rfl) ?_
          refine rt ?_
          exact fin1 (v := .string ((decB (v.tdiv 10)) ++ (mkS ([48 + v.tmod 10])))) Tryd.results94 rfl ⟨congrArg Value.string (decB_big (by omega)).symm, Hold.ch H4⟩
theorem l6Dec_pos (m : Nat) : ∀ (w : World) (v : Int), 0 ≤ v → v.natAbs = m → i64b v → Ret Tryd.prog 94 #[.int .i64 v] w (fun r w' => r = .string (decB v) ∧ Ch [] w w') := by
  induction m using Nat.strongRecOn with
  | _ m ih =>
    intro w v h0 hm hv
    exact l6Dec_n m v (fun k w u hk hu hb hs => ih k hk w u (hs h0) hu hb) w hm hv (fun h => by omega)
theorem l6Dec_m (m : Nat) : ∀ (w : World) (v : Int), v.natAbs = m → i64b v → Ret Tryd.prog 94 #[.int .i64 v] w (fun r w' => r = .string (decB v) ∧ Ch [] w w') := by
  induction m using Nat.strongRecOn with
  | _ m ih =>
    intro w v hm hv
    exact l6Dec_n m v (fun k w u hk hu hb _ => ih k hk w u hu hb) w hm hv (fun h w => (Int.lt_or_le (-10) v).imp (fun h2 => l6Dec_pos _ w (-v) (by omega) rfl ⟨by have := hv.1; omega, by have := hv.1; omega⟩) id)
theorem l6Dec {w : World} {v : Int} (hv : i64b v) : Ret Tryd.prog 94 #[.int .i64 v] w (fun r w' => r = .string (decB v) ∧ Ch [] w w') := l6Dec_m _ w v rfl hv
theorem FormatInt {w : World} {v : Int} (hv : i64b v) (ht : Go.Lib.TabIs Tryd.prog w "internal/strconv.uint64pow10" .u64 Go.Lib.pow10Tab) : Ret Tryd.prog 96 #[.int .i64 v, .int .i64 10] w (fun r w' => r = .string (decB v) ∧ Ch [] w w') :=
  Ret.of (Tryd.strconv_FormatInt_10 v hv.1 hv.2 w ht) fun e w' ⟨he, k, os, hw⟩ => ⟨_, he, rfl, by subst hw; exact ch_below (Go.Lib.below_grow _ w (Nat.le_refl _) k os)⟩
theorem words {w : World} {F : List Nat} {v : Value} {s : ByteArray} {ns : List Int} (hx : i64.R w F v ns) (lx : ns.length ≤ 1000) (hn : ∀ n, n ∈ ns → i64b n) (hs : s.size ≤ 1000000) (ht : Go.Lib.TabIs Tryd.prog w "internal/strconv.uint64pow10" .u64 Go.Lib.pow10Tab) : Ret Tryd.prog 69 #[.string s, v] w (fun r w' => r = .string (say s ns) ∧ Ch [] w w') := by
  refine enter Tryd.func69 rfl Tryd.ntmps69 (by rfl) (by rfl) ?_
  have H0 : Hold w [] w [] := Hold.start w
  refine sq (rg (r (sa rfl) (re (sq (sq (rg (r (mv rfl) (r (ln Tryd.underlying23 rfl ((hx.t (Hold.ch H0)))) (r (mv rfl) (re (bl ?_)))))))))))
  refine lp (α := Nat) (fun i ρ w' => ρ 0 = .string (say s (ns.take i)) ∧ ρ 7 = v ∧ ρ 8 = .int .i64 (ns.length : Int) ∧ ρ 9 = .int .i64 (i : Int) ∧ Hold w [] w' [] ∧ i ≤ ns.length) (fun i => ns.length - i) 0 ?_ ?_
  · exact ⟨rfl, rfl, rfl, rfl, H0, by omega⟩
  clear H0
  rintro i ρ w501 ⟨y0, y7, y8, y9, H1, hi⟩
  refine sq (rg (r (bi y9 y8 rfl) (re (sq ?_))))
  refine cp rfl (fun h => ?_) (fun h => ?_)
  · have hi' : i < ns.length := by omega
    have hb := hn _ (List.getElem_mem hi')
    have hd := decB_size _ hb
    have hz := say_size (s := s) (ns := ns.take i) (fun n h => hn n (List.mem_of_mem_take h))
    rw [List.length_take] at hz
    have h32 : (⟨#[32]⟩ : ByteArray).size = 1 := rfl
    refine sk (sq (bl (sq (rg ?_))))
    obtain ⟨c11_1, ad11_1, k11_1, e11_1, p11_1⟩ := Kd.R.place hx i (by omega)
    refine r (ix (j := i) Tryd.underlying23 ti2 (y7.trans e11_1) y9 (by omega)) (r (ld Tryd.underlying2 rfl rfl (Ch.cell (Hold.ch H1) p11_1.cell)) (r (sa rfl) (re (rg (r (mv y0) (r (mv rfl) (cl go96 (FormatInt hb (tab_ch ht (Hold.ch H1))) (ac rfl (ac rfl an)) ?_)))))))
    rintro r wf ⟨rfl, cf⟩
    have H2 : Hold w [] wf [] := Hold.t H1 cf
    clear H1
    clear cf
    refine r (sct rfl rfl (by omega)) (r (sct rfl rfl (by rw [ba_app_size]; omega)) (r (sa rfl) (re (be ?_))))
    refine gen (fun ρ => ρ 0 = .string ((say s (ns.take i)) ++ ((⟨#[32]⟩ : ByteArray) ++ (decB ns[i]))) ∧ ρ 7 = v ∧ ρ 8 = .int .i64 (ns.length : Int) ∧ ρ 9 = .int .i64 (i : Int) ∧ True) ⟨rfl, y7, y8, y9, trivial⟩ ?_
    rintro ρ ⟨z0, z7, z8, z9, -⟩
    refine rg (r (ad (a := (i : Int)) (b := 1) ((i : Int) + 1) z9 rfl (by omega)) (r (mv rfl) (re ?_)))
    exact ag (i + 1) ⟨(z0.trans (congrArg Value.string (say_take hi').symm)), z7, z8, rfl, H2, by omega⟩ (by first | omega | (dsimp only; omega))
  · have ei : i = ns.length := by omega
    refine ex rfl (sq (rg (r (mv y0) (r (sa rfl) (re (rt ?_))))))
    exact fin1 (v := .string (say s (ns.take i))) Tryd.results69 rfl ⟨congrArg Value.string (by rw [ei, List.take_length]), Hold.ch H1⟩
theorem l6Say {w : World} {F : List Nat} {v : Value} {s : ByteArray} {ns : List Int} (hx : i64.R w F v ns) (lx : ns.length ≤ 1000) (hn : ∀ n, n ∈ ns → i64b n) (hs : s.size ≤ 1000000) : Ret Tryd.prog 65 #[.string s, v] w (fun r w' => r = .string (say s ns) ∧ Ch [] w w') := by
  refine enter Tryd.func65 rfl Tryd.ntmps65 (by rfl) (by rfl) ?_
  have H0 : Hold w [] w [] := Hold.start w
  refine sq (rg (r (sa rfl) (re (sq (sq (rg (r (sa rfl) (re (bl ?_)))))))))
  refine lp (α := Nat) (fun i ρ w' => ρ 0 = .string (say s (ns.take i)) ∧ ρ 1 = v ∧ ρ 5 = .int .i64 (i : Int) ∧ Hold w [] w' [] ∧ i ≤ ns.length) (fun i => ns.length - i) 0 ?_ ?_
  · exact ⟨rfl, rfl, rfl, H0, by omega⟩
  clear H0
  rintro i ρ w501 ⟨y0, y1, y5, H1, hi⟩
  refine sq (sq (rg (r (mv y5) (r (mv y1) (r (ln Tryd.underlying23 rfl ((hx.t (Hold.ch H1)))) (r (bi rfl rfl rfl) (re ?_)))))))
  refine cp rfl (fun h => ?_) (fun h => ?_)
  · have hi' : i < ns.length := by omega
    have hb := hn _ (List.getElem_mem hi')
    have hd := decB_size _ hb
    have hz := say_size (s := s) (ns := ns.take i) (fun n h => hn n (List.mem_of_mem_take h))
    rw [List.length_take] at hz
    have h32 : (⟨#[32]⟩ : ByteArray).size = 1 := rfl
    refine sk (sq (bl (rg (r (mv y0) (r (mv y1) (r (mv y5) ?_))))))
    obtain ⟨c15_1, ad15_1, k15_1, e15_1, p15_1⟩ := Kd.R.place hx i (by omega)
    refine r (ix (j := i) Tryd.underlying23 ti2 e15_1 rfl (by omega)) (r (ld Tryd.underlying2 rfl rfl (Ch.cell (Hold.ch H1) p15_1.cell)) (cl go94 (l6Dec hb) (ac rfl an) ?_))
    rintro r wf ⟨rfl, cf⟩
    have H2 : Hold w [] wf [] := Hold.t H1 cf
    clear H1
    clear cf
    refine r (sct rfl rfl (by omega)) (r (sct rfl rfl (by rw [ba_app_size]; omega)) (r (sa rfl) (re (be ?_))))
    refine gen (fun ρ => ρ 0 = .string ((say s (ns.take i)) ++ ((⟨#[32]⟩ : ByteArray) ++ (decB ns[i]))) ∧ ρ 1 = v ∧ ρ 5 = .int .i64 (i : Int) ∧ True) ⟨rfl, y1, y5, trivial⟩ ?_
    rintro ρ ⟨z0, z1, z5, -⟩
    refine rg (r (mv z5) (r (ad (a := (i : Int)) (b := 1) ((i : Int) + 1) rfl rfl (by omega)) (r (sa rfl) (re ?_))))
    exact ag (i + 1) ⟨(z0.trans (congrArg Value.string (say_take hi').symm)), z1, rfl, H2, by omega⟩ (by first | omega | (dsimp only; omega))
  · have ei : i = ns.length := by omega
    refine ex rfl (sq (rg (r (mv y0) (r (sa rfl) (re (rt ?_))))))
    exact fin1 (v := .string (say s (ns.take i))) Tryd.results65 rfl ⟨congrArg Value.string (by rw [ei, List.take_length]), Hold.ch H1⟩
end Go.Proofs.YtgpcanjmgdmdhaaDoor
