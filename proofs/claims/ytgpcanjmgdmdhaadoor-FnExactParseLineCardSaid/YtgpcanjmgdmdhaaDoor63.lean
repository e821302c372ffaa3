/-
  CONTRACTS 63: drawn names, drawn inodes. No condition.
-/
import Derived.Test.YtgpcanjmgdmdhaaDoor54
import Derived.Test.YtgpcanjmgdmdhaaDoor34
import Derived.Test.YtgpcanjmgdmdhaaDoorTwo
namespace Go.Proofs.YtgpcanjmgdmdhaaDoor
open Go Go.Eng
set_option maxRecDepth 100000
set_option maxHeartbeats 4000000
set_option linter.unusedVariables false
set_option linter.unusedSimpArgs false
abbrev kStr : Kd ByteArray := Kd.str
theorem els_str {w : World} (xs : List ByteArray) : Els (kStr.O w) [] xs (xs.map Value.string) := by
  induction xs with
  | nil => exact ⟨rfl, rfl⟩
  | cons x xs ih => exact ⟨[], [], [_], _, rfl, rfl, ⟨rfl, rfl⟩, ih⟩
/-- The names that are drawn. -/
def names8 : List ByteArray := [⟨#[97]⟩, ⟨#[98]⟩, ⟨#[99]⟩, ⟨#[100]⟩, ⟨#[101, 46, 102]⟩, ⟨#[103, 95, 49]⟩, ⟨#[104, 45, 104]⟩, ⟨#[97, 98, 99, 100, 101, 102, 103, 104, 105, 106, 107, 108, 109, 110, 111, 112]⟩]
theorem names8_sz : ∀ n, n ∈ names8 → n.size ≤ 16 := by
  intro n hn
  simp only [names8, List.mem_cons, List.mem_nil_iff, or_false] at hn
  rcases hn with rfl | rfl | rfl | rfl | rfl | rfl | rfl | rfl <;> decide
def dName (s : Src) : ByteArray := names8.getD (nx s 8).1.toNat ⟨#[]⟩
theorem dName_mem {s : Src} (h : SrcOk s) : dName s ∈ names8 := by
  have h0 := nx_0 (n := 8) h
  have h1 := nx_1 (s := s) (n := 8) (by omega)
  rw [dName, List.getD_eq_getElem?_getD, List.getElem?_eq_getElem (show (nx s 8).1.toNat < names8.length from (show _ < 8 by omega))]
  exact List.getElem_mem _
theorem l2DrawName {w : World} {F : List Nat} {g : Nat} {v : Value} {s : Src} (h : Hs w [rB g 141 [v, .int .i64 (s.pt : Int), .int .i64 s.mix, .int .i64 s.size], rR u8 5 v s.code] F) (nd : F.Nodup) (ok : SrcOk s) : Ret Tryd.prog 90 #[.pointer (some ⟨g, 0, none⟩)] w (fun r w' => r = .string (dName s) ∧ Hold w F w' [rB g 141 [v, .int .i64 ((nx s 8).2.pt : Int), .int .i64 (nx s 8).2.mix, .int .i64 (nx s 8).2.size], rR u8 5 v (nx s 8).2.code]) := by
  refine enter Tryd.func90 rfl Tryd.ntmps90 (by rfl) (by rfl) ?_
  have H0 : Hold w F w [rB g 141 ([v, .int .i64 (s.pt : Int), .int .i64 s.mix, .int .i64 s.size]), rR u8 5 v s.code] := Hold.begin h nd
  have da1 := nx_0 (n := 8) ok
  have dc1 := nx_1 (s := s) (n := 8) (by omega)
  have do1 := nx_ok (n := 8) ok
  obtain ⟨dz1, hz1⟩ : ∃ z, z = (nx s 8).1 := ⟨_, rfl⟩
  obtain ⟨ds1, hs1⟩ : ∃ z, z = (nx s 8).2 := ⟨_, rfl⟩
  rw [← hz1] at da1 dc1
  rw [← hs1] at do1
  obtain ⟨m, hm1⟩ : ∃ m : Nat, dz1 = (m : Int) := ⟨dz1.toNat, by omega⟩
  refine sq (rg (r (sa rfl) (re (sq (rg (ef (bsm (cs := [.string (⟨#[97]⟩ : ByteArray), .string (⟨#[98]⟩ : ByteArray), .string (⟨#[99]⟩ : ByteArray), .string (⟨#[100]⟩ : ByteArray), .string (⟨#[101, 46, 102]⟩ : ByteArray), .string (⟨#[103, 95, 49]⟩ : ByteArray), .string (⟨#[104, 45, 104]⟩ : ByteArray), .string (⟨#[97, 98, 99, 100, 101, 102, 103, 104, 105, 106, 107, 108, 109, 110, 111, 112]⟩ : ByteArray)]) Tryd.underlying54 ti9 rfl (by rfl) (pc rfl (cel1 rfl) (pc rfl (cel1 rfl) (pc rfl (cel1 rfl) (pc rfl (cel1 rfl) (pc rfl (cel1 rfl) (pc rfl (cel1 rfl) (pc rfl (cel1 rfl) (pc rfl (cel1 rfl) pn)))))))) rfl) ?_))))))
  rintro _ w2 ⟨g4, e2, rfl, -, b2, c2⟩
  have H1 : Hold w F w2 [rB g 141 ([v, .int .i64 (s.pt : Int), .int .i64 s.mix, .int .i64 s.size]), rR u8 5 v s.code, rB g4 9 ([.string (⟨#[97]⟩ : ByteArray), .string (⟨#[98]⟩ : ByteArray), .string (⟨#[99]⟩ : ByteArray), .string (⟨#[100]⟩ : ByteArray), .string (⟨#[101, 46, 102]⟩ : ByteArray), .string (⟨#[103, 95, 49]⟩ : ByteArray), .string (⟨#[104, 45, 104]⟩ : ByteArray), .string (⟨#[97, 98, 99, 100, 101, 102, 103, 104, 105, 106, 107, 108, 109, 110, 111, 112]⟩ : ByteArray)])] := Hold.newB H0 e2 b2 c2
  clear H0
  clear e2 b2 c2
  have b3 : B w2 g4 9 ([.string (⟨#[97]⟩ : ByteArray), .string (⟨#[98]⟩ : ByteArray), .string (⟨#[99]⟩ : ByteArray), .string (⟨#[100]⟩ : ByteArray), .string (⟨#[101, 46, 102]⟩ : ByteArray), .string (⟨#[103, 95, 49]⟩ : ByteArray), .string (⟨#[104, 45, 104]⟩ : ByteArray), .string (⟨#[97, 98, 99, 100, 101, 102, 103, 104, 105, 106, 107, 108, 109, 110, 111, 112]⟩ : ByteArray)]) := Hold.blk H1 2 rfl
  obtain ⟨F4, hF4, n4, s4, K4⟩ := Hold.front (Γ := [rB g 141 ([v, .int .i64 (s.pt : Int), .int .i64 s.mix, .int .i64 s.size]), rR u8 5 v s.code]) (Δ := [rB g4 9 ([.string (⟨#[97]⟩ : ByteArray), .string (⟨#[98]⟩ : ByteArray), .string (⟨#[99]⟩ : ByteArray), .string (⟨#[100]⟩ : ByteArray), .string (⟨#[101, 46, 102]⟩ : ByteArray), .string (⟨#[103, 95, 49]⟩ : ByteArray), .string (⟨#[104, 45, 104]⟩ : ByteArray), .string (⟨#[97, 98, 99, 100, 101, 102, 103, 104, 105, 106, 107, 108, 109, 110, 111, 112]⟩ : ByteArray)])]) H1
  refine r (sa rfl) (re (sq (rg (r (mv rfl) (r (mv rfl) (r (mv rfl) (r (Rn.cast (v' := .int .i64 8) (ln Tryd.underlying54 rfl ((row_of_B (dk := kStr) (xs := [(⟨#[97]⟩ : ByteArray), (⟨#[98]⟩ : ByteArray), (⟨#[99]⟩ : ByteArray), (⟨#[100]⟩ : ByteArray), (⟨#[101, 46, 102]⟩ : ByteArray), (⟨#[103, 95, 49]⟩ : ByteArray), (⟨#[104, 45, 104]⟩ : ByteArray), (⟨#[97, 98, 99, 100, 101, 102, 103, 104, 105, 106, 107, 108, 109, 110, 111, 112]⟩ : ByteArray)]) b3 (els_str [(⟨#[97]⟩ : ByteArray), (⟨#[98]⟩ : ByteArray), (⟨#[99]⟩ : ByteArray), (⟨#[100]⟩ : ByteArray), (⟨#[101, 46, 102]⟩ : ByteArray), (⟨#[103, 95, 49]⟩ : ByteArray), (⟨#[104, 45, 104]⟩ : ByteArray), (⟨#[97, 98, 99, 100, 101, 102, 103, 104, 105, 106, 107, 108, 109, 110, 111, 112]⟩ : ByteArray)]) (Nat.le_of_ble_eq_true rfl)).R)) rfl) (cl go91 (l1Next (s := s) (m := 8) hF4 n4 ok (by omega)) (ac rfl (ac rfl an)) ?_))))))))
  rintro r wn1 ⟨er1, Hn1⟩
  rw [← hz1, hm1] at er1
  rw [← hs1] at Hn1
  subst er1
  have H2 : Hold w F wn1 [rB g 141 ([v, .int .i64 (ds1.pt : Int), .int .i64 ds1.mix, .int .i64 ds1.size]), rR u8 5 v ds1.code, rB g4 9 ([.string (⟨#[97]⟩ : ByteArray), .string (⟨#[98]⟩ : ByteArray), .string (⟨#[99]⟩ : ByteArray), .string (⟨#[100]⟩ : ByteArray), .string (⟨#[101, 46, 102]⟩ : ByteArray), .string (⟨#[103, 95, 49]⟩ : ByteArray), .string (⟨#[104, 45, 104]⟩ : ByteArray), .string (⟨#[97, 98, 99, 100, 101, 102, 103, 104, 105, 106, 107, 108, 109, 110, 111, 112]⟩ : ByteArray)])] := Hold.call K4 Hn1
  clear H1
  clear K4 hF4 n4 s4
  clear Hn1
  have b5 : B wn1 g4 9 ([.string (⟨#[97]⟩ : ByteArray), .string (⟨#[98]⟩ : ByteArray), .string (⟨#[99]⟩ : ByteArray), .string (⟨#[100]⟩ : ByteArray), .string (⟨#[101, 46, 102]⟩ : ByteArray), .string (⟨#[103, 95, 49]⟩ : ByteArray), .string (⟨#[104, 45, 104]⟩ : ByteArray), .string (⟨#[97, 98, 99, 100, 101, 102, 103, 104, 105, 106, 107, 108, 109, 110, 111, 112]⟩ : ByteArray)]) := Hold.blk H2 2 rfl
  obtain ⟨c10_6, ad10_6, k10_6, e10_6, p10_6⟩ := Kd.R.place ((row_of_B (dk := kStr) (xs := [(⟨#[97]⟩ : ByteArray), (⟨#[98]⟩ : ByteArray), (⟨#[99]⟩ : ByteArray), (⟨#[100]⟩ : ByteArray), (⟨#[101, 46, 102]⟩ : ByteArray), (⟨#[103, 95, 49]⟩ : ByteArray), (⟨#[104, 45, 104]⟩ : ByteArray), (⟨#[97, 98, 99, 100, 101, 102, 103, 104, 105, 106, 107, 108, 109, 110, 111, 112]⟩ : ByteArray)]) b5 (els_str [(⟨#[97]⟩ : ByteArray), (⟨#[98]⟩ : ByteArray), (⟨#[99]⟩ : ByteArray), (⟨#[100]⟩ : ByteArray), (⟨#[101, 46, 102]⟩ : ByteArray), (⟨#[103, 95, 49]⟩ : ByteArray), (⟨#[104, 45, 104]⟩ : ByteArray), (⟨#[97, 98, 99, 100, 101, 102, 103, 104, 105, 106, 107, 108, 109, 110, 111, 112]⟩ : ByteArray)]) (Nat.le_of_ble_eq_true rfl)).R) m ((show _ < 8 by omega))
  refine r (ix (j := m) Tryd.underlying54 ti9 e10_6 rfl ((show _ < 8 by omega))) (r (ld Tryd.underlying9 rfl rfl p10_6.cell) (r (sa rfl) (re (rt ?_))))
  have hmm : m < names8.length := (show _ < 8 by omega)
  have H3 : Hold w F wn1 [rB g 141 ([v, .int .i64 (ds1.pt : Int), .int .i64 ds1.mix, .int .i64 ds1.size]), rR u8 5 v ds1.code] := (show Hold w F wn1 ([rB g 141 ([v, .int .i64 (ds1.pt : Int), .int .i64 ds1.mix, .int .i64 ds1.size]), rR u8 5 v ds1.code] ++ [rB g4 9 ([.string (⟨#[97]⟩ : ByteArray), .string (⟨#[98]⟩ : ByteArray), .string (⟨#[99]⟩ : ByteArray), .string (⟨#[100]⟩ : ByteArray), .string (⟨#[101, 46, 102]⟩ : ByteArray), .string (⟨#[103, 95, 49]⟩ : ByteArray), .string (⟨#[104, 45, 104]⟩ : ByteArray), .string (⟨#[97, 98, 99, 100, 101, 102, 103, 104, 105, 106, 107, 108, 109, 110, 111, 112]⟩ : ByteArray)])]) from Hold.re H2 [0, 1, 2] (by kernel_rfl) (by rfl)).drop
  clear H2
  exact fin1 (v := .string (([(⟨#[97]⟩ : ByteArray), (⟨#[98]⟩ : ByteArray), (⟨#[99]⟩ : ByteArray), (⟨#[100]⟩ : ByteArray), (⟨#[101, 46, 102]⟩ : ByteArray), (⟨#[103, 95, 49]⟩ : ByteArray), (⟨#[104, 45, 104]⟩ : ByteArray), (⟨#[97, 98, 99, 100, 101, 102, 103, 104, 105, 106, 107, 108, 109, 110, 111, 112]⟩ : ByteArray)])[m])) Tryd.results90 rfl ⟨congrArg Value.string (by rw [dName, ← hz1, hm1, List.getD_eq_getElem?_getD, Int.toNat_natCast, List.getElem?_eq_getElem hmm]; rfl), by rw [← hs1]; exact H3⟩
theorem l2DrawInode {w : World} {F : List Nat} {g : Nat} {v : Value} {s : Src} (h : Hs w [rB g 141 [v, .int .i64 (s.pt : Int), .int .i64 s.mix, .int .i64 s.size], rR u8 5 v s.code] F) (nd : F.Nodup) (ok : SrcOk s) : Ret Tryd.prog 51 #[.pointer (some ⟨g, 0, none⟩)] w (fun r w' => ∃ (nm : ByteArray) (z : Int) (ls : List Int) (u : Value) (s' : Src), r = .agg #[.string nm, .int .i64 z, u] ∧ nm.size ≤ 16 ∧ ls.length ≤ 50 ∧ SrcOk s' ∧ Hold w F w' [rB g 141 [v, .int .i64 (s'.pt : Int), .int .i64 s'.mix, .int .i64 s'.size], rR u8 5 v s'.code, rR i64 2 u ls]) := by
  refine enter Tryd.func51 rfl Tryd.ntmps51 (by rfl) (by rfl) ?_
  have H0 : Hold w F w [rB g 141 ([v, .int .i64 (s.pt : Int), .int .i64 s.mix, .int .i64 s.size]), rR u8 5 v s.code] := Hold.begin h nd
  have do1 := nx_ok (n := 8) ok
  have dm1 := names8_sz _ (dName_mem ok)
  obtain ⟨nm1, hq1⟩ : ∃ z, z = dName s := ⟨_, rfl⟩
  obtain ⟨ds1, hs1⟩ : ∃ z, z = (nx s 8).2 := ⟨_, rfl⟩
  rw [← hq1] at dm1
  rw [← hs1] at do1
  have da2 := nx_0 (n := 400) do1
  have dc2 := nx_1 (s := ds1) (n := 400) (by omega)
  have do2 := nx_ok (n := 400) do1
  obtain ⟨dz2, hz2⟩ : ∃ z, z = (nx ds1 400).1 := ⟨_, rfl⟩
  obtain ⟨ds2, hs2⟩ : ∃ z, z = (nx ds1 400).2 := ⟨_, rfl⟩
  rw [← hz2] at da2 dc2
  rw [← hs2] at do2
  have da3 := nx_0 (n := 6) do2
  have dc3 := nx_1 (s := ds2) (n := 6) (by omega)
  have do3 := nx_ok (n := 6) do2
  obtain ⟨dz3, hz3⟩ : ∃ z, z = (nx ds2 6).1 := ⟨_, rfl⟩
  obtain ⟨ds3, hs3⟩ : ∃ z, z = (nx ds2 6).2 := ⟨_, rfl⟩
  rw [← hz3] at da3 dc3
  rw [← hs3] at do3
  refine sq (rg (ef (xal ti25) ?_))
  rintro _ w4 ⟨g2, e4, rfl, -, b4, c4⟩
  have H1 : Hold w F w4 [rB g 141 ([v, .int .i64 (s.pt : Int), .int .i64 s.mix, .int .i64 s.size]), rR u8 5 v s.code, rB g2 25 ([.string ⟨#[]⟩, .int .i64 0, .slice none 0 0])] := Hold.newB H0 e4 b4 c4
  clear H0
  clear e4 b4 c4
  obtain ⟨F5, hF5, n5, s5, K5⟩ := Hold.front (Γ := [rB g 141 ([v, .int .i64 (s.pt : Int), .int .i64 s.mix, .int .i64 s.size]), rR u8 5 v s.code]) (Δ := [rB g2 25 ([.string ⟨#[]⟩, .int .i64 0, .slice none 0 0])]) H1
  refine re (sq (rg (r (mv rfl) (cl go90 (l2DrawName (s := s) hF5 n5 ok) (ac rfl an) ?_))))
  rintro r wn1 ⟨er1, Hn1⟩
  rw [← hq1] at er1
  rw [← hs1] at Hn1
  subst er1
  have H2 : Hold w F wn1 [rB g 141 ([v, .int .i64 (ds1.pt : Int), .int .i64 ds1.mix, .int .i64 ds1.size]), rR u8 5 v ds1.code, rB g2 25 ([.string ⟨#[]⟩, .int .i64 0, .slice none 0 0])] := Hold.call K5 Hn1
  clear H1
  clear K5 hF5 n5 s5
  clear Hn1
  obtain ⟨F6, hF6, n6, s6, K6⟩ := Hold.front (Γ := [rB g 141 ([v, .int .i64 (ds1.pt : Int), .int .i64 ds1.mix, .int .i64 ds1.size]), rR u8 5 v ds1.code]) (Δ := [rB g2 25 ([.string ⟨#[]⟩, .int .i64 0, .slice none 0 0])]) H2
  refine r (mv rfl) (cl go91 (l1Next (s := ds1) (m := 400) hF6 n6 do1 (by omega)) (ac rfl (ac rfl an)) ?_)
  rintro r wn2 ⟨er2, Hn2⟩
  rw [← hz2] at er2
  rw [← hs2] at Hn2
  subst er2
  have H3 : Hold w F wn2 [rB g 141 ([v, .int .i64 (ds2.pt : Int), .int .i64 ds2.mix, .int .i64 ds2.size]), rR u8 5 v ds2.code, rB g2 25 ([.string ⟨#[]⟩, .int .i64 0, .slice none 0 0])] := Hold.call K6 Hn2
  clear H2
  clear K6 hF6 n6 s6
  clear Hn2
  refine r (bd (r := [.string nm1, .int .i64 dz2, .slice none 0 0]) ti25 pl25 (pc rfl (cel1 rfl) (pc rfl (cel1 rfl) pn)) rfl) (ef (xal ti25) ?_)
  rintro _ w7 ⟨g3, e7, rfl, -, b7, c7⟩
  have H4 : Hold w F w7 [rB g 141 ([v, .int .i64 (ds2.pt : Int), .int .i64 ds2.mix, .int .i64 ds2.size]), rR u8 5 v ds2.code, rB g2 25 ([.string ⟨#[]⟩, .int .i64 0, .slice none 0 0]), rB g3 25 ([.string ⟨#[]⟩, .int .i64 0, .slice none 0 0])] := Hold.newB H3 e7 b7 c7
  clear H3
  clear e7 b7 c7
  have b8 : B w7 g3 25 ([.string ⟨#[]⟩, .int .i64 0, .slice none 0 0]) := Hold.blk H4 3 rfl
  refine ef0 (xst (vs := [.string nm1, .int .i64 dz2, .slice none 0 0]) ti25 rfl rfl rfl b8 rfl (Nat.le_of_ble_eq_true rfl) (one_all rfl)) ?_
  rintro w9 ⟨-, b9, c9⟩
  have H5 : Hold w F w9 [rB g 141 ([v, .int .i64 (ds2.pt : Int), .int .i64 ds2.mix, .int .i64 ds2.size]), rR u8 5 v ds2.code, rB g2 25 ([.string ⟨#[]⟩, .int .i64 0, .slice none 0 0]), rB g3 25 ([.string nm1, .int .i64 dz2, .slice none 0 0])] := Hold.setB H4 3 rfl b9 c9 rfl
  clear H4
  clear b9 c9
  obtain ⟨F10, hF10, n10, s10, K10⟩ := Hold.front (Γ := [rB g 141 ([v, .int .i64 (ds2.pt : Int), .int .i64 ds2.mix, .int .i64 ds2.size]), rR u8 5 v ds2.code]) (Δ := [rB g2 25 ([.string ⟨#[]⟩, .int .i64 0, .slice none 0 0]), rB g3 25 ([.string nm1, .int .i64 dz2, .slice none 0 0])]) H5
  refine re (sq (sq (rg (r (mv rfl) (cl go91 (l1Next (s := ds2) (m := 6) hF10 n10 do2 (by omega)) (ac rfl (ac rfl an)) ?_)))))
  rintro r wn3 ⟨er3, Hn3⟩
  rw [← hz3] at er3
  rw [← hs3] at Hn3
  subst er3
  have H6 : Hold w F wn3 [rB g 141 ([v, .int .i64 (ds3.pt : Int), .int .i64 ds3.mix, .int .i64 ds3.size]), rR u8 5 v ds3.code, rB g2 25 ([.string ⟨#[]⟩, .int .i64 0, .slice none 0 0]), rB g3 25 ([.string nm1, .int .i64 dz2, .slice none 0 0])] := Hold.call K10 Hn3
  clear H5
  clear K10 hF10 n10 s10
  clear Hn3
  refine r (bi rfl rfl rfl) (re ?_)
  refine jn (α := Int × Src) (fun (z, s1) ρ w' => ρ 0 = .pointer (some ⟨g, 0, none⟩) ∧ ρ 2 = .pointer (some ⟨g2, 0, none⟩) ∧ ρ 3 = .pointer (some ⟨g3, 0, none⟩) ∧ Hold w F w' [rB g 141 ([v, .int .i64 (s1.pt : Int), .int .i64 s1.mix, .int .i64 s1.size]), rR u8 5 v s1.code, rB g2 25 ([.string ⟨#[]⟩, .int .i64 0, .slice none 0 0]), rB g3 25 ([.string nm1, .int .i64 z, .slice none 0 0])] ∧ 0 ≤ z ∧ z ≤ 1408 ∧ SrcOk s1) ?_ ?_
  · refine cp rfl (fun h1 => ?_) (fun h1 => ?_)
    · have da11 := nx_0 (n := 66) do3
      have dc11 := nx_1 (s := ds3) (n := 66) (by omega)
      have do11 := nx_ok (n := 66) do3
      obtain ⟨dz11, hz11⟩ : ∃ z, z = (nx ds3 66).1 := ⟨_, rfl⟩
      obtain ⟨ds11, hs11⟩ : ∃ z, z = (nx ds3 66).2 := ⟨_, rfl⟩
      rw [← hz11] at da11 dc11
      rw [← hs11] at do11
      refine gen (fun ρ => ρ 0 = .pointer (some ⟨g, 0, none⟩) ∧ ρ 2 = .pointer (some ⟨g2, 0, none⟩) ∧ ρ 3 = .pointer (some ⟨g3, 0, none⟩) ∧ True) ⟨rfl, rfl, rfl, trivial⟩ ?_
      rintro ρ ⟨z0, z2, z3, -⟩
      obtain ⟨F12, hF12, n12, s12, K12⟩ := Hold.front (Γ := [rB g 141 ([v, .int .i64 (ds3.pt : Int), .int .i64 ds3.mix, .int .i64 ds3.size]), rR u8 5 v ds3.code]) (Δ := [rB g2 25 ([.string ⟨#[]⟩, .int .i64 0, .slice none 0 0]), rB g3 25 ([.string nm1, .int .i64 dz2, .slice none 0 0])]) H6
      refine rg (r (mv z0) (cl go91 (l1Next (s := ds3) (m := 66) hF12 n12 do3 (by omega)) (ac rfl (ac rfl an)) ?_))
      rintro r wn11 ⟨er11, Hn11⟩
      rw [← hz11] at er11
      rw [← hs11] at Hn11
      subst er11
      have H7 : Hold w F wn11 [rB g 141 ([v, .int .i64 (ds11.pt : Int), .int .i64 ds11.mix, .int .i64 ds11.size]), rR u8 5 v ds11.code, rB g2 25 ([.string ⟨#[]⟩, .int .i64 0, .slice none 0 0]), rB g3 25 ([.string nm1, .int .i64 dz2, .slice none 0 0])] := Hold.call K12 Hn11
      clear H6
      clear K12 hF12 n12 s12
      clear Hn11
      have b13 : B wn11 g3 25 ([.string nm1, .int .i64 dz2, .slice none 0 0]) := Hold.blk H7 3 rfl
      refine r (sb (a := 1408) (b := dz11) (1408 - dz11) rfl rfl (by omega)) (r (fa Tryd.underlying25 rfl ti2 rfl z3) (ef0 (xst (vs := [.int .i64 (1408 - dz11)]) ti2 rfl rfl (cel1 rfl) b13 rfl (Nat.le_of_ble_eq_true rfl) (one_all rfl)) ?_))
      rintro w14 ⟨-, b14, c14⟩
      have H8 : Hold w F w14 [rB g 141 ([v, .int .i64 (ds11.pt : Int), .int .i64 ds11.mix, .int .i64 ds11.size]), rR u8 5 v ds11.code, rB g2 25 ([.string ⟨#[]⟩, .int .i64 0, .slice none 0 0]), rB g3 25 ([.string nm1, .int .i64 (1408 - dz11), .slice none 0 0])] := Hold.setB H7 3 rfl b14 c14 rfl
      clear H7
      clear b14 c14
      refine re ?_
      exact je (1408 - dz11, ds11) ⟨z0, z2, z3, H8, ⟨by omega, by omega, do11⟩⟩
    · refine sk ?_
      exact je (dz2, ds3) ⟨rfl, rfl, rfl, H6, ⟨by omega, by omega, do3⟩⟩
  · rintro ⟨z, s1⟩ ρ w566 ⟨y0, y2, y3, H66, ⟨hz0, hz1, ok1⟩⟩
    clear H6
    skip
    have da311 := nx_0 (n := 8) ok1
    have dc311 := nx_1 (s := s1) (n := 8) (by omega)
    have do311 := nx_ok (n := 8) ok1
    obtain ⟨dz311, hz311⟩ : ∃ z, z = (nx s1 8).1 := ⟨_, rfl⟩
    obtain ⟨ds311, hs311⟩ : ∃ z, z = (nx s1 8).2 := ⟨_, rfl⟩
    rw [← hz311] at da311 dc311
    rw [← hs311] at do311
    obtain ⟨F312, hF312, n312, s312, K312⟩ := Hold.front (Γ := [rB g 141 ([v, .int .i64 (s1.pt : Int), .int .i64 s1.mix, .int .i64 s1.size]), rR u8 5 v s1.code]) (Δ := [rB g2 25 ([.string ⟨#[]⟩, .int .i64 0, .slice none 0 0]), rB g3 25 ([.string nm1, .int .i64 z, .slice none 0 0])]) H66
    refine sq (sq (rg (r (mv y0) (cl go91 (l1Next (s := s1) (m := 8) hF312 n312 ok1 (by omega)) (ac rfl (ac rfl an)) ?_))))
    rintro r wn311 ⟨er311, Hn311⟩
    rw [← hz311] at er311
    rw [← hs311] at Hn311
    subst er311
    have H67 : Hold w F wn311 [rB g 141 ([v, .int .i64 (ds311.pt : Int), .int .i64 ds311.mix, .int .i64 ds311.size]), rR u8 5 v ds311.code, rB g2 25 ([.string ⟨#[]⟩, .int .i64 0, .slice none 0 0]), rB g3 25 ([.string nm1, .int .i64 z, .slice none 0 0])] := Hold.call K312 Hn311
    clear H66
    clear K312 hF312 n312 s312
    clear Hn311
    refine r (bi rfl rfl rfl) (re ?_)
    refine jn (α := Int × Src) (fun (z, s1) ρ w' => ρ 0 = .pointer (some ⟨g, 0, none⟩) ∧ ρ 2 = .pointer (some ⟨g2, 0, none⟩) ∧ ρ 3 = .pointer (some ⟨g3, 0, none⟩) ∧ Hold w F w' [rB g 141 ([v, .int .i64 (s1.pt : Int), .int .i64 s1.mix, .int .i64 s1.size]), rR u8 5 v s1.code, rB g2 25 ([.string ⟨#[]⟩, .int .i64 0, .slice none 0 0]), rB g3 25 ([.string nm1, .int .i64 z, .slice none 0 0])] ∧ 0 ≤ z ∧ z ≤ 1408 ∧ SrcOk s1) ?_ ?_
    · refine cp rfl (fun h1 => ?_) (fun h1 => ?_)
      · have da313 := nx_0 (n := 23) do311
        have dc313 := nx_1 (s := ds311) (n := 23) (by omega)
        have do313 := nx_ok (n := 23) do311
        obtain ⟨dz313, hz313⟩ : ∃ z, z = (nx ds311 23).1 := ⟨_, rfl⟩
        obtain ⟨ds313, hs313⟩ : ∃ z, z = (nx ds311 23).2 := ⟨_, rfl⟩
        rw [← hz313] at da313 dc313
        rw [← hs313] at do313
        obtain ⟨F314, hF314, n314, s314, K314⟩ := Hold.front (Γ := [rB g 141 ([v, .int .i64 (ds311.pt : Int), .int .i64 ds311.mix, .int .i64 ds311.size]), rR u8 5 v ds311.code]) (Δ := [rB g2 25 ([.string ⟨#[]⟩, .int .i64 0, .slice none 0 0]), rB g3 25 ([.string nm1, .int .i64 z, .slice none 0 0])]) H67
        refine rg (r (mv y0) (cl go91 (l1Next (s := ds311) (m := 23) hF314 n314 do311 (by omega)) (ac rfl (ac rfl an)) ?_))
        rintro r wn313 ⟨er313, Hn313⟩
        rw [← hz313] at er313
        rw [← hs313] at Hn313
        subst er313
        have H68 : Hold w F wn313 [rB g 141 ([v, .int .i64 (ds313.pt : Int), .int .i64 ds313.mix, .int .i64 ds313.size]), rR u8 5 v ds313.code, rB g2 25 ([.string ⟨#[]⟩, .int .i64 0, .slice none 0 0]), rB g3 25 ([.string nm1, .int .i64 z, .slice none 0 0])] := Hold.call K314 Hn313
        clear H67
        clear K314 hF314 n314 s314
        clear Hn313
        have b315 : B wn313 g3 25 ([.string nm1, .int .i64 z, .slice none 0 0]) := Hold.blk H68 3 rfl
        refine r (ml (a := 64) (b := dz313) (64 * dz313) rfl rfl (by omega)) (r (fa Tryd.underlying25 rfl ti2 rfl y3) (ef0 (xst (vs := [.int .i64 (64 * dz313)]) ti2 rfl rfl (cel1 rfl) b315 rfl (Nat.le_of_ble_eq_true rfl) (one_all rfl)) ?_))
        rintro w316 ⟨-, b316, c316⟩
        have H69 : Hold w F w316 [rB g 141 ([v, .int .i64 (ds313.pt : Int), .int .i64 ds313.mix, .int .i64 ds313.size]), rR u8 5 v ds313.code, rB g2 25 ([.string ⟨#[]⟩, .int .i64 0, .slice none 0 0]), rB g3 25 ([.string nm1, .int .i64 (64 * dz313), .slice none 0 0])] := Hold.setB H68 3 rfl b316 c316 rfl
        clear H68
        clear b316 c316
        refine re ?_
        exact je (64 * dz313, ds313) ⟨y0, y2, y3, H69, ⟨by omega, by omega, do313⟩⟩
      · refine sk ?_
        exact je (z, ds311) ⟨y0, y2, y3, H67, ⟨by omega, by omega, do311⟩⟩
    · rintro ⟨z, s1⟩ ρ w627 ⟨y0, y2, y3, H127, ⟨hz0, hz1, ok1⟩⟩
      clear H67
      have H128 : Hold w F w627 [rB g 141 ([v, .int .i64 (s1.pt : Int), .int .i64 s1.mix, .int .i64 s1.size]), rR u8 5 v s1.code, rB g2 25 ([.string ⟨#[]⟩, .int .i64 0, .slice none 0 0]), rB g3 25 ([.string nm1, .int .i64 z, .slice none 0 0]), rR i64 2 (.slice none 0 0) ([])] := Hold.nilrow i64 2 H127
      clear H127
      refine sq (sq (rg (r (sa rfl) (re (bl ?_)))))
      refine lp (α := Nat × Value × List Int × Src) (fun (i, o, ls, s2) ρ w' => ρ 0 = .pointer (some ⟨g, 0, none⟩) ∧ ρ 2 = .pointer (some ⟨g2, 0, none⟩) ∧ ρ 3 = .pointer (some ⟨g3, 0, none⟩) ∧ ρ 4 = .int .i64 (i : Int) ∧ Hold w F w' [rB g 141 ([v, .int .i64 (s2.pt : Int), .int .i64 s2.mix, .int .i64 s2.size]), rR u8 5 v s2.code, rB g2 25 ([.string ⟨#[]⟩, .int .i64 0, .slice none 0 0]), rB g3 25 ([.string nm1, .int .i64 z, o]), rR i64 2 o ls] ∧ (i : Int) ≤ (z + 63) / 64 ∧ ls.length = i ∧ SrcOk s2) (fun (i, o, ls, s2) => ((z + 63) / 64 - i).toNat) (0, .slice none 0 0, [], s1) ?_ ?_
      · exact ⟨y0, y2, y3, rfl, H128, ⟨by omega, rfl, ok1⟩⟩
      clear H128
      rintro ⟨i, o, ls, s2⟩ ρ w629 ⟨y0, y2, y3, y4, H129, ⟨hi, hls, ok2⟩⟩
      have b613 : B w629 g3 25 ([.string nm1, .int .i64 z, o]) := Hold.blk H129 3 rfl
      refine sq (sq (rg (r (mv y4) (r (fa Tryd.underlying25 rfl ti2 rfl y3) (r (ldb Tryd.underlying2 rfl rfl b613 rfl) (cl go39 (l2Blocks (n := z) (by omega)) (ac rfl an) ?_))))))
      rintro r wb ⟨rfl, cb⟩
      have H130 : Hold w F wb [rB g 141 ([v, .int .i64 (s2.pt : Int), .int .i64 s2.mix, .int .i64 s2.size]), rR u8 5 v s2.code, rB g2 25 ([.string ⟨#[]⟩, .int .i64 0, .slice none 0 0]), rB g3 25 ([.string nm1, .int .i64 z, o]), rR i64 2 o ls] := Hold.t H129 cb
      clear H129
      clear cb
      refine r (bi rfl rfl rfl) (re ?_)
      refine cp rfl (fun h => ?_) (fun h => ?_)
      · have da615 := nx_0 (n := 1024) ok2
        have dc615 := nx_1 (s := s2) (n := 1024) (by omega)
        have do615 := nx_ok (n := 1024) ok2
        obtain ⟨dz615, hz615⟩ : ∃ z, z = (nx s2 1024).1 := ⟨_, rfl⟩
        obtain ⟨ds615, hs615⟩ : ∃ z, z = (nx s2 1024).2 := ⟨_, rfl⟩
        rw [← hz615] at da615 dc615
        rw [← hs615] at do615
        refine sk (sq (bl ?_))
        refine rde mixed ?_
        intro w616 c616
        have H131 : Hold w F w616 [rB g 141 ([v, .int .i64 (s2.pt : Int), .int .i64 s2.mix, .int .i64 s2.size]), rR u8 5 v s2.code, rB g2 25 ([.string ⟨#[]⟩, .int .i64 0, .slice none 0 0]), rB g3 25 ([.string nm1, .int .i64 z, o]), rR i64 2 o ls] := Hold.t H130 c616
        clear H130
        clear c616
        have H132 : Hold w F w616 [rB g 141 ([v, .int .i64 (s2.pt : Int), .int .i64 s2.mix, .int .i64 s2.size]), rR u8 5 v s2.code, rR i64 2 o ls, rB g2 25 ([.string ⟨#[]⟩, .int .i64 0, .slice none 0 0]), rB g3 25 ([.string nm1, .int .i64 z, o])] := Hold.re H131 [0, 1, 4, 2, 3] (by kernel_rfl) (by rfl)
        clear H131
        obtain ⟨Fd617, hFd617, nd617, Kd617, Xd617, sd617⟩ := Hold.frontx (Γ := [rB g 141 ([v, .int .i64 (s2.pt : Int), .int .i64 s2.mix, .int .i64 s2.size]), rR u8 5 v s2.code, rR i64 2 o ls]) (Δ := [rB g2 25 ([.string ⟨#[]⟩, .int .i64 0, .slice none 0 0]), rB g3 25 ([.string nm1, .int .i64 z, o])]) H132
        have H617d0 : Hold w616 Fd617 w616 [rB g 141 ([v, .int .i64 (s2.pt : Int), .int .i64 s2.mix, .int .i64 s2.size]), rR u8 5 v s2.code, rR i64 2 o ls] := Hold.begin hFd617 nd617
        refine ⟨fun w' => Ch Fd617 w616 w', Ch.refl _ _, ?_⟩
        obtain ⟨_, ⟨rfl, b618⟩, x618⟩ := Xd617 1 (rB g3 25 ([.string nm1, .int .i64 z, o])) rfl
        obtain ⟨F619, hF619, n619, s619, K619⟩ := Hold.front (Γ := [rB g 141 ([v, .int .i64 (s2.pt : Int), .int .i64 s2.mix, .int .i64 s2.size]), rR u8 5 v s2.code]) (Δ := [rR i64 2 o ls]) H617d0
        refine edt 0 rfl (by kernel_rfl) (fun w' hS => fa Tryd.underlying25 rfl ti23 rfl y3) (edt 1 rfl (by kernel_rfl) (fun w' hS => ldb Tryd.underlying23 rfl rfl (hS.b b618 (x618 _ (by simp))) rfl) (edt 2 rfl (by kernel_rfl) (fun w' hS => mv y0) (ed1 3 (by kernel_rfl) <| euc rfl go91 (ac rfl (ac rfl an)) (l1Next (s := s2) (m := 1024) hF619 n619 ok2 (by omega)) ?_)))
        rintro r wn615 ⟨er615, Hn615⟩
        rw [← hz615] at er615
        rw [← hs615] at Hn615
        subst er615
        have H133d : Hold w616 Fd617 wn615 [rB g 141 ([v, .int .i64 (ds615.pt : Int), .int .i64 ds615.mix, .int .i64 ds615.size]), rR u8 5 v ds615.code, rR i64 2 o ls] := Hold.call K619 Hn615
        clear H617d0
        clear K619 hF619 n619 s619
        clear Hn615
        refine ⟨.inr (Hold.ch H133d), ?_⟩
        refine edt 4 rfl (by kernel_rfl) (fun w' hS => ad (a := 1) (b := dz615) (1 + dz615) rfl rfl (by omega)) (ed1 5 (by kernel_rfl) <| euf rfl (xbs1 (cs := [.int .i64 (1 + dz615)]) Tryd.underlying23 ti2 rfl rfl rfl (cel1 rfl) rfl) ?_)
        rintro _ w620 ⟨g37, e620, rfl, -, b620, c620⟩
        have H134d : Hold w616 Fd617 w620 [rB g 141 ([v, .int .i64 (ds615.pt : Int), .int .i64 ds615.mix, .int .i64 ds615.size]), rR u8 5 v ds615.code, rR i64 2 o ls, rB g37 2 ([.int .i64 (1 + dz615)])] := Hold.newB H133d e620 b620 c620
        clear H133d
        clear e620 b620 c620
        refine ⟨.inr (Hold.ch H134d), ?_⟩
        have b622 : B w620 g37 2 ([.int .i64 (1 + dz615)]) := Hold.blk H134d 3 rfl
        obtain ⟨F623, P623, n623, s623, K623⟩ := Hold.pick H134d 2 rfl
        replace P623 : Kd.W i64 2 w620 F623 o ls := P623
        refine ed1 6 (by kernel_rfl) <| euf rfl (xapb (ys := [1 + dz615]) Tryd.underlying23 ti2 rfl rfl rfl P623 b622 (els_one (R := Kd.O i64 _) (show Kd.O i64 _ [] (1 + dz615) _ from ⟨rfl, rfl⟩)) (nodup_nil n623) (by simp; omega)) ?_
        rintro v38_621 w621 ⟨F621, A621⟩
        have H135d : Hold w616 Fd617 w621 [rB g 141 ([v, .int .i64 (ds615.pt : Int), .int .i64 ds615.mix, .int .i64 ds615.size]), rR u8 5 v ds615.code, rR i64 2 v38_621 (ls ++ [1 + dz615]), rB g37 2 ([.int .i64 (1 + dz615)])] := Hold.apd K623 P623 A621 rfl
        clear H134d
        clear A621 K623 P623 n623 s623
        refine ⟨.inr (Hold.ch H135d), ?_⟩
        have H136 : Hold w F w621 [rB g 141 ([v, .int .i64 (ds615.pt : Int), .int .i64 ds615.mix, .int .i64 ds615.size]), rR u8 5 v ds615.code, rR i64 2 v38_621 (ls ++ [1 + dz615]), rB g37 2 ([.int .i64 (1 + dz615)]), rB g2 25 ([.string ⟨#[]⟩, .int .i64 0, .slice none 0 0]), rB g3 25 ([.string nm1, .int .i64 z, o])] := Hold.call Kd617 H135d
        clear H135d H132
        have b624 : B w621 g3 25 ([.string nm1, .int .i64 z, o]) := Hold.blk H136 5 rfl
        obtain ⟨_, R626⟩ : ∃ F, Kd.R i64 w621 F v38_621 (ls ++ [1 + dz615]) := Hold.row H136 2 rfl
        refine edt 7 rfl (by kernel_rfl) (fun w' hS => fa Tryd.underlying25 rfl ti23 rfl y3) (ed1 8 (by kernel_rfl) <| euf0 rfl (xst (vs := [v38_621]) ti23 rfl rfl (cel1 (R626).oneCell) b624 rfl (Nat.le_of_ble_eq_true rfl) (ones1 (R626).oneCell)) ?_)
        rintro w625 ⟨-, b625, c625⟩
        have H137 : Hold w F w625 [rB g 141 ([v, .int .i64 (ds615.pt : Int), .int .i64 ds615.mix, .int .i64 ds615.size]), rR u8 5 v ds615.code, rR i64 2 v38_621 (ls ++ [1 + dz615]), rB g37 2 ([.int .i64 (1 + dz615)]), rB g2 25 ([.string ⟨#[]⟩, .int .i64 0, .slice none 0 0]), rB g3 25 ([.string nm1, .int .i64 z, v38_621])] := Hold.setB H136 5 rfl b625 c625 rfl
        clear H136
        clear b625 c625
        refine ⟨.inl (by kernel_rfl), ?_⟩
        refine edd (by kernel_rfl) ?_
        refine be ?_
        refine gen (fun ρ => ρ 0 = .pointer (some ⟨g, 0, none⟩) ∧ ρ 2 = .pointer (some ⟨g2, 0, none⟩) ∧ ρ 3 = .pointer (some ⟨g3, 0, none⟩) ∧ ρ 4 = .int .i64 (i : Int) ∧ True) ⟨y0, y2, y3, y4, trivial⟩ ?_
        rintro ρ ⟨z0, z2, z3, z4, -⟩
        refine rg (r (mv z4) (r (ad (a := (i : Int)) (b := 1) ((i : Int) + 1) rfl rfl (by omega)) (r (sa rfl) (re ?_))))
        have H138 : Hold w F w625 [rB g 141 ([v, .int .i64 (ds615.pt : Int), .int .i64 ds615.mix, .int .i64 ds615.size]), rR u8 5 v ds615.code, rB g2 25 ([.string ⟨#[]⟩, .int .i64 0, .slice none 0 0]), rB g3 25 ([.string nm1, .int .i64 z, v38_621]), rR i64 2 v38_621 (ls ++ [1 + dz615])] := (show Hold w F w625 ([rB g 141 ([v, .int .i64 (ds615.pt : Int), .int .i64 ds615.mix, .int .i64 ds615.size]), rR u8 5 v ds615.code, rB g2 25 ([.string ⟨#[]⟩, .int .i64 0, .slice none 0 0]), rB g3 25 ([.string nm1, .int .i64 z, v38_621]), rR i64 2 v38_621 (ls ++ [1 + dz615])] ++ [rB g37 2 ([.int .i64 (1 + dz615)])]) from Hold.re H137 [0, 1, 4, 5, 2, 3] (by kernel_rfl) (by rfl)).drop
        clear H137
        exact ag (i + 1, v38_621, ls ++ [1 + dz615], ds615) ⟨z0, z2, z3, rfl, H138, ⟨by omega, by simp; omega, do615⟩⟩ (by first | omega | (dsimp only; omega))
      · have hl : ls.length ≤ 22 := by omega
        have da615 := nx_0 (n := 16) ok2
        have dc615 := nx_1 (s := s2) (n := 16) (by omega)
        have do615 := nx_ok (n := 16) ok2
        obtain ⟨dz615, hz615⟩ : ∃ z, z = (nx s2 16).1 := ⟨_, rfl⟩
        obtain ⟨ds615, hs615⟩ : ∃ z, z = (nx s2 16).2 := ⟨_, rfl⟩
        rw [← hz615] at da615 dc615
        rw [← hs615] at do615
        obtain ⟨F616, hF616, n616, s616, K616⟩ := Hold.front (Γ := [rB g 141 ([v, .int .i64 (s2.pt : Int), .int .i64 s2.mix, .int .i64 s2.size]), rR u8 5 v s2.code]) (Δ := [rB g2 25 ([.string ⟨#[]⟩, .int .i64 0, .slice none 0 0]), rB g3 25 ([.string nm1, .int .i64 z, o]), rR i64 2 o ls]) H130
        refine ex rfl (sq (rg (r (mv y0) (cl go91 (l1Next (s := s2) (m := 16) hF616 n616 ok2 (by omega)) (ac rfl (ac rfl an)) ?_))))
        rintro r wn615 ⟨er615, Hn615⟩
        rw [← hz615] at er615
        rw [← hs615] at Hn615
        subst er615
        have H131 : Hold w F wn615 [rB g 141 ([v, .int .i64 (ds615.pt : Int), .int .i64 ds615.mix, .int .i64 ds615.size]), rR u8 5 v ds615.code, rB g2 25 ([.string ⟨#[]⟩, .int .i64 0, .slice none 0 0]), rB g3 25 ([.string nm1, .int .i64 z, o]), rR i64 2 o ls] := Hold.call K616 Hn615
        clear H130
        clear K616 hF616 n616 s616
        clear Hn615
        refine r (sa rfl) (re (sq (sq (rg (r (mv rfl) (r (bi rfl rfl rfl) (re ?_)))))))
        refine jn (α := ByteArray × Int × Value × List Int × Src) (fun (nm, z, o, ls, s3) ρ w' => ρ 0 = .pointer (some ⟨g, 0, none⟩) ∧ ρ 2 = .pointer (some ⟨g2, 0, none⟩) ∧ ρ 3 = .pointer (some ⟨g3, 0, none⟩) ∧ ρ 5 = .int .i64 dz615 ∧ Hold w F w' [rB g 141 ([v, .int .i64 (s3.pt : Int), .int .i64 s3.mix, .int .i64 s3.size]), rR u8 5 v s3.code, rB g2 25 ([.string ⟨#[]⟩, .int .i64 0, .slice none 0 0]), rB g3 25 ([.string nm, .int .i64 z, o]), rR i64 2 o ls] ∧ nm.size ≤ 16 ∧ -100 ≤ z ∧ z ≤ 2000 ∧ ls.length ≤ 22 ∧ SrcOk s3) ?_ ?_
        · refine cp rfl (fun hk0 => ?_) (fun hk0 => ?_)
          · have da617 := nx_0 (n := 70) do615
            have dc617 := nx_1 (s := ds615) (n := 70) (by omega)
            have do617 := nx_ok (n := 70) do615
            obtain ⟨dz617, hz617⟩ : ∃ z, z = (nx ds615 70).1 := ⟨_, rfl⟩
            obtain ⟨ds617, hs617⟩ : ∃ z, z = (nx ds615 70).2 := ⟨_, rfl⟩
            rw [← hz617] at da617 dc617
            rw [← hs617] at do617
            refine gen (fun ρ => ρ 0 = .pointer (some ⟨g, 0, none⟩) ∧ ρ 2 = .pointer (some ⟨g2, 0, none⟩) ∧ ρ 3 = .pointer (some ⟨g3, 0, none⟩) ∧ ρ 5 = .int .i64 dz615 ∧ True) ⟨y0, y2, y3, rfl, trivial⟩ ?_
            rintro ρ ⟨z0, z2, z3, z5, -⟩
            refine rde mixed ?_
            intro w618 c618
            have H132 : Hold w F w618 [rB g 141 ([v, .int .i64 (ds615.pt : Int), .int .i64 ds615.mix, .int .i64 ds615.size]), rR u8 5 v ds615.code, rB g2 25 ([.string ⟨#[]⟩, .int .i64 0, .slice none 0 0]), rB g3 25 ([.string nm1, .int .i64 z, o]), rR i64 2 o ls] := Hold.t H131 c618
            clear H131
            clear c618
            obtain ⟨Fd619, hFd619, nd619, Kd619, Xd619, sd619⟩ := Hold.frontx (Γ := [rB g 141 ([v, .int .i64 (ds615.pt : Int), .int .i64 ds615.mix, .int .i64 ds615.size]), rR u8 5 v ds615.code]) (Δ := [rB g2 25 ([.string ⟨#[]⟩, .int .i64 0, .slice none 0 0]), rB g3 25 ([.string nm1, .int .i64 z, o]), rR i64 2 o ls]) H132
            have H619d0 : Hold w618 Fd619 w618 [rB g 141 ([v, .int .i64 (ds615.pt : Int), .int .i64 ds615.mix, .int .i64 ds615.size]), rR u8 5 v ds615.code] := Hold.begin hFd619 nd619
            refine ⟨fun w' => Ch Fd619 w618 w', Ch.refl _ _, ?_⟩
            obtain ⟨_, ⟨rfl, b620⟩, x620⟩ := Xd619 1 (rB g3 25 ([.string nm1, .int .i64 z, o])) rfl
            obtain ⟨F621, hF621, n621, s621, K621⟩ := Hold.front (Γ := [rB g 141 ([v, .int .i64 (ds615.pt : Int), .int .i64 ds615.mix, .int .i64 ds615.size]), rR u8 5 v ds615.code]) (Δ := []) H619d0
            refine edt 0 rfl (by kernel_rfl) (fun w' hS => fa Tryd.underlying25 rfl ti2 rfl z3) (edt 1 rfl (by kernel_rfl) (fun w' hS => ldb Tryd.underlying2 rfl rfl (hS.b b620 (x620 _ (by simp))) rfl) (edt 2 rfl (by kernel_rfl) (fun w' hS => mv z0) (ed1 3 (by kernel_rfl) <| euc rfl go91 (ac rfl (ac rfl an)) (l1Next (s := ds615) (m := 70) hF621 n621 do615 (by omega)) ?_)))
            rintro r wn617 ⟨er617, Hn617⟩
            rw [← hz617] at er617
            rw [← hs617] at Hn617
            subst er617
            have H133d : Hold w618 Fd619 wn617 [rB g 141 ([v, .int .i64 (ds617.pt : Int), .int .i64 ds617.mix, .int .i64 ds617.size]), rR u8 5 v ds617.code] := Hold.call K621 Hn617
            clear H619d0
            clear K621 hF621 n621 s621
            clear Hn617
            refine ⟨.inr (Hold.ch H133d), ?_⟩
            have H134 : Hold w F wn617 [rB g 141 ([v, .int .i64 (ds617.pt : Int), .int .i64 ds617.mix, .int .i64 ds617.size]), rR u8 5 v ds617.code, rB g2 25 ([.string ⟨#[]⟩, .int .i64 0, .slice none 0 0]), rB g3 25 ([.string nm1, .int .i64 z, o]), rR i64 2 o ls] := Hold.call Kd619 H133d
            clear H133d H132
            have b622 : B wn617 g3 25 ([.string nm1, .int .i64 z, o]) := Hold.blk H134 3 rfl
            refine edt 4 rfl (by kernel_rfl) (fun w' hS => ad (a := z) (b := dz617) (z + dz617) rfl rfl (by omega)) (edt 5 rfl (by kernel_rfl) (fun w' hS => sb (a := z + dz617) (b := 35) ((z + dz617) - 35) rfl rfl (by omega)) (edt 6 rfl (by kernel_rfl) (fun w' hS => fa Tryd.underlying25 rfl ti2 rfl z3) (ed1 7 (by kernel_rfl) <| euf0 rfl (xst (vs := [.int .i64 ((z + dz617) - 35)]) ti2 rfl rfl (cel1 rfl) b622 rfl (Nat.le_of_ble_eq_true rfl) (one_all rfl)) ?_)))
            rintro w623 ⟨-, b623, c623⟩
            have H135 : Hold w F w623 [rB g 141 ([v, .int .i64 (ds617.pt : Int), .int .i64 ds617.mix, .int .i64 ds617.size]), rR u8 5 v ds617.code, rB g2 25 ([.string ⟨#[]⟩, .int .i64 0, .slice none 0 0]), rB g3 25 ([.string nm1, .int .i64 ((z + dz617) - 35), o]), rR i64 2 o ls] := Hold.setB H134 3 rfl b623 c623 rfl
            clear H134
            clear b623 c623
            refine ⟨.inl (by kernel_rfl), ?_⟩
            refine edd (by kernel_rfl) ?_
            exact je (nm1, (z + dz617) - 35, o, ls, ds617) ⟨z0, z2, z3, z5, H135, ⟨by first | assumption | decide, by omega, by omega, by (try simp only [List.length_set, List.length_append, List.length_singleton]) <;> omega, do617⟩⟩
          · refine sk ?_
            exact je (nm1, z, o, ls, ds615) ⟨y0, y2, y3, rfl, H131, ⟨by first | assumption | decide, by omega, by omega, by (try simp only [List.length_set, List.length_append, List.length_singleton]) <;> omega, do615⟩⟩
        · rintro ⟨nm, z, o, ls, s3⟩ ρ w691 ⟨y0, y2, y3, y5, H191, ⟨hnm, hz1, hz2, hls, ok3⟩⟩
          clear H131
          refine sq (sq (rg (r (mv y5) (r (bi rfl rfl rfl) (r (mv rfl) ?_)))))
          refine sp 53 rfl (fun hk1 => ?_) (fun hk1 => ?_)
          · have b917 : B w691 g3 25 ([.string nm, .int .i64 z, o]) := Hold.blk H191 3 rfl
            obtain ⟨_, R918⟩ : ∃ F, Kd.R i64 w691 F o ls := Hold.row H191 4 rfl
            refine gy rfl rfl rfl (r (fa Tryd.underlying25 rfl ti23 rfl y3) (gy rfl rfl rfl (r (ldb Tryd.underlying23 rfl rfl b917 rfl) (gy rfl rfl rfl (r (ln Tryd.underlying23 rfl (R918)) (gy rfl rfl rfl (r (bi rfl rfl rfl) (r (pk rfl rfl) (re ?_)))))))))
            refine jn (α := ByteArray × Int × Value × List Int × Src) (fun (nm, z, o, ls, s3) ρ w' => ρ 2 = .pointer (some ⟨g2, 0, none⟩) ∧ ρ 3 = .pointer (some ⟨g3, 0, none⟩) ∧ ρ 5 = .int .i64 dz615 ∧ Hold w F w' [rB g 141 ([v, .int .i64 (s3.pt : Int), .int .i64 s3.mix, .int .i64 s3.size]), rR u8 5 v s3.code, rB g2 25 ([.string ⟨#[]⟩, .int .i64 0, .slice none 0 0]), rB g3 25 ([.string nm, .int .i64 z, o]), rR i64 2 o ls] ∧ nm.size ≤ 16 ∧ -100 ≤ z ∧ z ≤ 2000 ∧ ls.length ≤ 22 ∧ SrcOk s3) ?_ ?_
            · refine cp rfl (fun hk4 => ?_) (fun hk4 => ?_)
              · have da919 := nx_0 (n := 2) ok3
                have dc919 := nx_1 (s := s3) (n := 2) (by omega)
                have do919 := nx_ok (n := 2) ok3
                obtain ⟨dz919, hz919⟩ : ∃ z, z = (nx s3 2).1 := ⟨_, rfl⟩
                obtain ⟨ds919, hs919⟩ : ∃ z, z = (nx s3 2).2 := ⟨_, rfl⟩
                rw [← hz919] at da919 dc919
                rw [← hs919] at do919
                have da920 := nx_0 (n := 2) do919
                have dc920 := nx_1 (s := ds919) (n := 2) (by omega)
                have do920 := nx_ok (n := 2) do919
                obtain ⟨dz920, hz920⟩ : ∃ z, z = (nx ds919 2).1 := ⟨_, rfl⟩
                obtain ⟨ds920, hs920⟩ : ∃ z, z = (nx ds919 2).2 := ⟨_, rfl⟩
                rw [← hz920] at da920 dc920
                rw [← hs920] at do920
                refine rde mixed ?_
                intro w921 c921
                have H192 : Hold w F w921 [rB g 141 ([v, .int .i64 (s3.pt : Int), .int .i64 s3.mix, .int .i64 s3.size]), rR u8 5 v s3.code, rB g2 25 ([.string ⟨#[]⟩, .int .i64 0, .slice none 0 0]), rB g3 25 ([.string nm, .int .i64 z, o]), rR i64 2 o ls] := Hold.t H191 c921
                clear H191
                clear c921
                have H193 : Hold w F w921 [rB g 141 ([v, .int .i64 (s3.pt : Int), .int .i64 s3.mix, .int .i64 s3.size]), rR u8 5 v s3.code, rR i64 2 o ls, rB g2 25 ([.string ⟨#[]⟩, .int .i64 0, .slice none 0 0]), rB g3 25 ([.string nm, .int .i64 z, o])] := Hold.re H192 [0, 1, 4, 2, 3] (by kernel_rfl) (by rfl)
                clear H192
                obtain ⟨Fd922, hFd922, nd922, Kd922, Xd922, sd922⟩ := Hold.frontx (Γ := [rB g 141 ([v, .int .i64 (s3.pt : Int), .int .i64 s3.mix, .int .i64 s3.size]), rR u8 5 v s3.code, rR i64 2 o ls]) (Δ := [rB g2 25 ([.string ⟨#[]⟩, .int .i64 0, .slice none 0 0]), rB g3 25 ([.string nm, .int .i64 z, o])]) H193
                have H922d0 : Hold w921 Fd922 w921 [rB g 141 ([v, .int .i64 (s3.pt : Int), .int .i64 s3.mix, .int .i64 s3.size]), rR u8 5 v s3.code, rR i64 2 o ls] := Hold.begin hFd922 nd922
                refine ⟨fun w' => Ch Fd922 w921 w', Ch.refl _ _, ?_⟩
                obtain ⟨_, ⟨rfl, b923⟩, x923⟩ := Xd922 1 (rB g3 25 ([.string nm, .int .i64 z, o])) rfl
                obtain ⟨F924, hF924, n924, s924, K924⟩ := Hold.front (Γ := [rB g 141 ([v, .int .i64 (s3.pt : Int), .int .i64 s3.mix, .int .i64 s3.size]), rR u8 5 v s3.code]) (Δ := [rR i64 2 o ls]) H922d0
                refine edt 0 rfl (by kernel_rfl) (fun w' hS => fa Tryd.underlying25 rfl ti23 rfl y3) (edt 1 rfl (by kernel_rfl) (fun w' hS => ldb Tryd.underlying23 rfl rfl (hS.b b923 (x923 _ (by simp))) rfl) (edt 2 rfl (by kernel_rfl) (fun w' hS => mv y0) (edt 5 rfl (by kernel_rfl) (fun w' hS => mv y0) (ed1 3 (by kernel_rfl) <| euc rfl go91 (ac rfl (ac rfl an)) (l1Next (s := s3) (m := 2) hF924 n924 ok3 (by omega)) ?_))))
                rintro r wn919 ⟨er919, Hn919⟩
                rw [← hz919] at er919
                rw [← hs919] at Hn919
                subst er919
                have H194d : Hold w921 Fd922 wn919 [rB g 141 ([v, .int .i64 (ds919.pt : Int), .int .i64 ds919.mix, .int .i64 ds919.size]), rR u8 5 v ds919.code, rR i64 2 o ls] := Hold.call K924 Hn919
                clear H922d0
                clear K924 hF924 n924 s924
                clear Hn919
                refine ⟨.inr (Hold.ch H194d), ?_⟩
                obtain ⟨F925, hF925, n925, s925, K925⟩ := Hold.front (Γ := [rB g 141 ([v, .int .i64 (ds919.pt : Int), .int .i64 ds919.mix, .int .i64 ds919.size]), rR u8 5 v ds919.code]) (Δ := [rR i64 2 o ls]) H194d
                refine edt 4 rfl (by kernel_rfl) (fun w' hS => ml (a := dz919) (b := 65536) (dz919 * 65536) rfl rfl (by omega)) (ed1 6 (by kernel_rfl) <| euc rfl go91 (ac rfl (ac rfl an)) (l1Next (s := ds919) (m := 2) hF925 n925 do919 (by omega)) ?_)
                rintro r wn920 ⟨er920, Hn920⟩
                rw [← hz920] at er920
                rw [← hs920] at Hn920
                subst er920
                have H195d : Hold w921 Fd922 wn920 [rB g 141 ([v, .int .i64 (ds920.pt : Int), .int .i64 ds920.mix, .int .i64 ds920.size]), rR u8 5 v ds920.code, rR i64 2 o ls] := Hold.call K925 Hn920
                clear H194d
                clear K925 hF925 n925 s925
                clear Hn920
                refine ⟨.inr (Hold.ch H195d), ?_⟩
                obtain ⟨_, R926⟩ : ∃ F, Kd.R i64 wn920 F o ls := Hold.row H195d 2 rfl
                refine edt 7 rfl (by kernel_rfl) (fun w' hS => sb (a := dz919 * 65536) (b := dz920) ((dz919 * 65536) - dz920) rfl rfl (by omega)) ?_
                obtain ⟨c67_927, ad67_927, k67_927, e67_927, p67_927⟩ := Kd.R.place R926 0 ((by omega))
                have H196 : Hold w F wn920 [rB g 141 ([v, .int .i64 (ds920.pt : Int), .int .i64 ds920.mix, .int .i64 ds920.size]), rR u8 5 v ds920.code, rR i64 2 o ls, rB g2 25 ([.string ⟨#[]⟩, .int .i64 0, .slice none 0 0]), rB g3 25 ([.string nm, .int .i64 z, o])] := Hold.call Kd922 H195d
                clear H195d H193
                obtain ⟨F928, P928, n928, s928, K928⟩ := Hold.pick H196 2 rfl
                replace P928 : Kd.W i64 2 wn920 F928 o ls := P928
                refine edt 8 rfl (by kernel_rfl) (fun w' hS => ix (j := 0) Tryd.underlying23 ti2 e67_927 rfl ((by omega))) (ed1 9 (by kernel_rfl) <| euf0 rfl (xstw (a := (dz919 * 65536) - dz920) (j := 0) ti2 P928 e67_927 rfl (by omega) rfl (show Kd.O i64 _ [] ((dz919 * 65536) - dz920) _ from ⟨rfl, rfl⟩) (nodup_nil n928)) ?_)
                rintro w929 ⟨-, F929, A929⟩
                have H197 : Hold w F w929 [rB g 141 ([v, .int .i64 (ds920.pt : Int), .int .i64 ds920.mix, .int .i64 ds920.size]), rR u8 5 v ds920.code, rR i64 2 o (ls.set 0 ((dz919 * 65536) - dz920)), rB g2 25 ([.string ⟨#[]⟩, .int .i64 0, .slice none 0 0]), rB g3 25 ([.string nm, .int .i64 z, o])] := Hold.apd K928 P928 A929 rfl
                clear H196
                clear A929 K928 P928 n928 s928
                refine ⟨.inl (by kernel_rfl), ?_⟩
                refine edd (by kernel_rfl) ?_
                have H198 : Hold w F w929 [rB g 141 ([v, .int .i64 (ds920.pt : Int), .int .i64 ds920.mix, .int .i64 ds920.size]), rR u8 5 v ds920.code, rB g2 25 ([.string ⟨#[]⟩, .int .i64 0, .slice none 0 0]), rB g3 25 ([.string nm, .int .i64 z, o]), rR i64 2 o (ls.set 0 ((dz919 * 65536) - dz920))] := Hold.re H197 [0, 1, 3, 4, 2] (by kernel_rfl) (by rfl)
                clear H197
                exact je (nm, z, o, ls.set 0 ((dz919 * 65536) - dz920), ds920) ⟨y2, y3, y5, H198, ⟨by first | assumption | decide, by omega, by omega, by (try simp only [List.length_set, List.length_append, List.length_singleton]) <;> omega, do920⟩⟩
              · refine sk ?_
                exact je (nm, z, o, ls, s3) ⟨y2, y3, y5, H191, ⟨by first | assumption | decide, by omega, by omega, by (try simp only [List.length_set, List.length_append, List.length_singleton]) <;> omega, ok3⟩⟩
            · rintro ⟨nm, z, o, ls, s3⟩ ρ w751 ⟨y2, y3, y5, H251, ⟨hnm, hz1, hz2, hls, ok3⟩⟩
              clear H191
              refine sq (sq (rg (r (mv y5) (r (bi rfl rfl rfl) (re ?_)))))
              refine jn (α := ByteArray × Int × Value × List Int × Src) (fun (nm, z, o, ls, s3) ρ w' => ρ 2 = .pointer (some ⟨g2, 0, none⟩) ∧ ρ 3 = .pointer (some ⟨g3, 0, none⟩) ∧ ρ 5 = .int .i64 dz615 ∧ Hold w F w' [rB g 141 ([v, .int .i64 (s3.pt : Int), .int .i64 s3.mix, .int .i64 s3.size]), rR u8 5 v s3.code, rB g2 25 ([.string ⟨#[]⟩, .int .i64 0, .slice none 0 0]), rB g3 25 ([.string nm, .int .i64 z, o]), rR i64 2 o ls] ∧ nm.size ≤ 16 ∧ -100 ≤ z ∧ z ≤ 2000 ∧ ls.length ≤ 22 ∧ SrcOk s3) ?_ ?_
              · refine cp rfl (fun hk2 => ?_) (fun hk2 => ?_)
                · have b1219 : B w751 g3 25 ([.string nm, .int .i64 z, o]) := Hold.blk H251 3 rfl
                  refine rg (r (fa Tryd.underlying25 rfl ti9 rfl y3) (ef0 (xst (vs := [.string (⟨#[]⟩ : ByteArray)]) ti9 rfl rfl (cel1 rfl) b1219 rfl (Nat.le_of_ble_eq_true rfl) (one_all rfl)) ?_))
                  rintro w1220 ⟨-, b1220, c1220⟩
                  have H252 : Hold w F w1220 [rB g 141 ([v, .int .i64 (s3.pt : Int), .int .i64 s3.mix, .int .i64 s3.size]), rR u8 5 v s3.code, rB g2 25 ([.string ⟨#[]⟩, .int .i64 0, .slice none 0 0]), rB g3 25 ([.string (⟨#[]⟩ : ByteArray), .int .i64 z, o]), rR i64 2 o ls] := Hold.setB H251 3 rfl b1220 c1220 rfl
                  clear H251
                  clear b1220 c1220
                  refine re ?_
                  exact je ((⟨#[]⟩ : ByteArray), z, o, ls, s3) ⟨y2, y3, y5, H252, ⟨by first | assumption | decide, by omega, by omega, by (try simp only [List.length_set, List.length_append, List.length_singleton]) <;> omega, ok3⟩⟩
                · refine sk ?_
                  exact je (nm, z, o, ls, s3) ⟨y2, y3, y5, H251, ⟨by first | assumption | decide, by omega, by omega, by (try simp only [List.length_set, List.length_append, List.length_singleton]) <;> omega, ok3⟩⟩
              · rintro ⟨nm, z, o, ls, s3⟩ ρ w811 ⟨y2, y3, y5, H311, ⟨hnm, hz1, hz2, hls, ok3⟩⟩
                clear H251
                refine sq (sq (rg (r (mv y5) (r (bi rfl rfl rfl) (re ?_)))))
                refine jn (α := ByteArray × Int × Value × List Int × Src) (fun (nm, z, o, ls, s3) ρ w' => ρ 2 = .pointer (some ⟨g2, 0, none⟩) ∧ ρ 3 = .pointer (some ⟨g3, 0, none⟩) ∧ Hold w F w' [rB g 141 ([v, .int .i64 (s3.pt : Int), .int .i64 s3.mix, .int .i64 s3.size]), rR u8 5 v s3.code, rB g2 25 ([.string ⟨#[]⟩, .int .i64 0, .slice none 0 0]), rB g3 25 ([.string nm, .int .i64 z, o]), rR i64 2 o ls] ∧ nm.size ≤ 16 ∧ -100 ≤ z ∧ z ≤ 2000 ∧ ls.length ≤ 23 ∧ SrcOk s3) ?_ ?_
                · refine cp rfl (fun hk3 => ?_) (fun hk3 => ?_)
                  · have b1519 : B w811 g3 25 ([.string nm, .int .i64 z, o]) := Hold.blk H311 3 rfl
                    refine sq (rg (r (fa Tryd.underlying25 rfl ti2 rfl y3) (ef0 (xst (vs := [.int .i64 1409]) ti2 rfl rfl (cel1 rfl) b1519 rfl (Nat.le_of_ble_eq_true rfl) (one_all rfl)) ?_)))
                    rintro w1520 ⟨-, b1520, c1520⟩
                    have H312 : Hold w F w1520 [rB g 141 ([v, .int .i64 (s3.pt : Int), .int .i64 s3.mix, .int .i64 s3.size]), rR u8 5 v s3.code, rB g2 25 ([.string ⟨#[]⟩, .int .i64 0, .slice none 0 0]), rB g3 25 ([.string nm, .int .i64 1409, o]), rR i64 2 o ls] := Hold.setB H311 3 rfl b1520 c1520 rfl
                    clear H311
                    clear b1520 c1520
                    have b1521 : B w1520 g3 25 ([.string nm, .int .i64 1409, o]) := Hold.blk H312 3 rfl
                    refine re (rg (r (fa Tryd.underlying25 rfl ti23 rfl y3) (r (ldb Tryd.underlying23 rfl rfl b1521 rfl) (ef (xbs1 (cs := [.int .i64 1]) Tryd.underlying23 ti2 rfl rfl rfl (cel1 rfl) rfl) ?_))))
                    rintro _ w1522 ⟨g76, e1522, rfl, -, b1522, c1522⟩
                    have H313 : Hold w F w1522 [rB g 141 ([v, .int .i64 (s3.pt : Int), .int .i64 s3.mix, .int .i64 s3.size]), rR u8 5 v s3.code, rB g2 25 ([.string ⟨#[]⟩, .int .i64 0, .slice none 0 0]), rB g3 25 ([.string nm, .int .i64 1409, o]), rR i64 2 o ls, rB g76 2 ([.int .i64 1])] := Hold.newB H312 e1522 b1522 c1522
                    clear H312
                    clear e1522 b1522 c1522
                    have b1524 : B w1522 g76 2 ([.int .i64 1]) := Hold.blk H313 5 rfl
                    obtain ⟨F1525, P1525, n1525, s1525, K1525⟩ := Hold.pick H313 4 rfl
                    replace P1525 : Kd.W i64 2 w1522 F1525 o ls := P1525
                    refine ef (xapb (ys := [1]) Tryd.underlying23 ti2 rfl rfl rfl P1525 b1524 (els_one (R := Kd.O i64 _) (show Kd.O i64 _ [] 1 _ from ⟨rfl, rfl⟩)) (nodup_nil n1525) (by simp; omega)) ?_
                    rintro v77_1523 w1523 ⟨F1523, A1523⟩
                    have H314 : Hold w F w1523 [rB g 141 ([v, .int .i64 (s3.pt : Int), .int .i64 s3.mix, .int .i64 s3.size]), rR u8 5 v s3.code, rB g2 25 ([.string ⟨#[]⟩, .int .i64 0, .slice none 0 0]), rB g3 25 ([.string nm, .int .i64 1409, o]), rR i64 2 v77_1523 (ls ++ [1]), rB g76 2 ([.int .i64 1])] := Hold.apd K1525 P1525 A1523 rfl
                    clear H313
                    clear A1523 K1525 P1525 n1525 s1525
                    have b1526 : B w1523 g3 25 ([.string nm, .int .i64 1409, o]) := Hold.blk H314 3 rfl
                    obtain ⟨_, R1528⟩ : ∃ F, Kd.R i64 w1523 F v77_1523 (ls ++ [1]) := Hold.row H314 4 rfl
                    refine r (fa Tryd.underlying25 rfl ti23 rfl y3) (ef0 (xst (vs := [v77_1523]) ti23 rfl rfl (cel1 (R1528).oneCell) b1526 rfl (Nat.le_of_ble_eq_true rfl) (ones1 (R1528).oneCell)) ?_)
                    rintro w1527 ⟨-, b1527, c1527⟩
                    have H315 : Hold w F w1527 [rB g 141 ([v, .int .i64 (s3.pt : Int), .int .i64 s3.mix, .int .i64 s3.size]), rR u8 5 v s3.code, rB g2 25 ([.string ⟨#[]⟩, .int .i64 0, .slice none 0 0]), rB g3 25 ([.string nm, .int .i64 1409, v77_1523]), rR i64 2 v77_1523 (ls ++ [1]), rB g76 2 ([.int .i64 1])] := Hold.setB H314 3 rfl b1527 c1527 rfl
                    clear H314
                    clear b1527 c1527
                    refine re ?_
                    have H316 : Hold w F w1527 [rB g 141 ([v, .int .i64 (s3.pt : Int), .int .i64 s3.mix, .int .i64 s3.size]), rR u8 5 v s3.code, rB g2 25 ([.string ⟨#[]⟩, .int .i64 0, .slice none 0 0]), rB g3 25 ([.string nm, .int .i64 1409, v77_1523]), rR i64 2 v77_1523 (ls ++ [1])] := (show Hold w F w1527 ([rB g 141 ([v, .int .i64 (s3.pt : Int), .int .i64 s3.mix, .int .i64 s3.size]), rR u8 5 v s3.code, rB g2 25 ([.string ⟨#[]⟩, .int .i64 0, .slice none 0 0]), rB g3 25 ([.string nm, .int .i64 1409, v77_1523]), rR i64 2 v77_1523 (ls ++ [1])] ++ [rB g76 2 ([.int .i64 1])]) from Hold.re H315 [0, 1, 2, 3, 4, 5] (by kernel_rfl) (by rfl)).drop
                    clear H315
                    exact je (nm, 1409, v77_1523, ls ++ [1], s3) ⟨y2, y3, H316, ⟨by first | assumption | decide, by omega, by omega, by (try simp only [List.length_set, List.length_append, List.length_singleton]) <;> omega, ok3⟩⟩
                  · refine sk ?_
                    exact je (nm, z, o, ls, s3) ⟨y2, y3, H311, ⟨by first | assumption | decide, by omega, by omega, by (try simp only [List.length_set, List.length_append, List.length_singleton]) <;> omega, ok3⟩⟩
                · rintro ⟨nm, z, o, ls, s3⟩ ρ w871 ⟨y2, y3, H371, ⟨hnm, hz1, hz2, hls, ok3⟩⟩
                  clear H311
                  have b1819 : B w871 g3 25 ([.string nm, .int .i64 z, o]) := Hold.blk H371 3 rfl
                  have b1820 : B w871 g2 25 ([.string ⟨#[]⟩, .int .i64 0, .slice none 0 0]) := Hold.blk H371 2 rfl
                  obtain ⟨_, R1822⟩ : ∃ F, Kd.R i64 w871 F o ls := Hold.row H371 4 rfl
                  refine sq (rg (r (lab [.string nm, .int .i64 z, o] Tryd.underlying25 rfl ti25 y3 b1819 rfl rfl) (ef0 (xst (vs := [.string nm, .int .i64 z, o]) ti25 y2 rfl rfl b1820 rfl (Nat.le_of_ble_eq_true rfl) (oc rfl (oc rfl (oc (R1822).oneCell on)))) ?_)))
                  rintro w1821 ⟨-, b1821, c1821⟩
                  have H372 : Hold w F w1821 [rB g 141 ([v, .int .i64 (s3.pt : Int), .int .i64 s3.mix, .int .i64 s3.size]), rR u8 5 v s3.code, rB g2 25 ([.string nm, .int .i64 z, o]), rB g3 25 ([.string nm, .int .i64 z, o]), rR i64 2 o ls] := Hold.setB H371 2 rfl b1821 c1821 rfl
                  clear H371
                  clear b1821 c1821
                  refine re (rt ?_)
                  have b1823 : B w1821 g2 25 ([.string nm, .int .i64 z, o]) := Hold.blk H372 2 rfl
                  have H373 : Hold w F w1821 [rB g 141 ([v, .int .i64 (s3.pt : Int), .int .i64 s3.mix, .int .i64 s3.size]), rR u8 5 v s3.code, rR i64 2 o ls] := (show Hold w F w1821 ([rB g 141 ([v, .int .i64 (s3.pt : Int), .int .i64 s3.mix, .int .i64 s3.size]), rR u8 5 v s3.code, rR i64 2 o ls] ++ [rB g2 25 ([.string nm, .int .i64 z, o]), rB g3 25 ([.string nm, .int .i64 z, o])]) from Hold.re H372 [0, 1, 4, 2, 3] (by kernel_rfl) (by rfl)).drop
                  clear H372
                  exact finc  (cs := [.string nm, .int .i64 z, o]) Tryd.results51 Tryd.underlying25 rfl ti25 y2 b1823 rfl  ⟨_, _, _, _, _, rfl, hnm, by omega, ok3, H373⟩
          · refine gn rfl rfl rfl (gn rfl rfl rfl (gn rfl rfl rfl (gn rfl rfl rfl (r (pk rfl rfl) (re (cf rfl (sk (sq (sq (rg (r (mv y5) (r (bi rfl rfl rfl) (re ?_)))))))))))))
            refine jn (α := ByteArray × Int × Value × List Int × Src) (fun (nm, z, o, ls, s3) ρ w' => ρ 2 = .pointer (some ⟨g2, 0, none⟩) ∧ ρ 3 = .pointer (some ⟨g3, 0, none⟩) ∧ ρ 5 = .int .i64 dz615 ∧ Hold w F w' [rB g 141 ([v, .int .i64 (s3.pt : Int), .int .i64 s3.mix, .int .i64 s3.size]), rR u8 5 v s3.code, rB g2 25 ([.string ⟨#[]⟩, .int .i64 0, .slice none 0 0]), rB g3 25 ([.string nm, .int .i64 z, o]), rR i64 2 o ls] ∧ nm.size ≤ 16 ∧ -100 ≤ z ∧ z ≤ 2000 ∧ ls.length ≤ 22 ∧ SrcOk s3) ?_ ?_
            · refine cp rfl (fun hk2 => ?_) (fun hk2 => ?_)
              · refine gen (fun ρ => ρ 2 = .pointer (some ⟨g2, 0, none⟩) ∧ ρ 3 = .pointer (some ⟨g3, 0, none⟩) ∧ ρ 5 = .int .i64 dz615 ∧ True) ⟨y2, y3, y5, trivial⟩ ?_
                rintro ρ ⟨z2, z3, z5, -⟩
                have b917 : B w691 g3 25 ([.string nm, .int .i64 z, o]) := Hold.blk H191 3 rfl
                refine rg (r (fa Tryd.underlying25 rfl ti9 rfl z3) (ef0 (xst (vs := [.string (⟨#[]⟩ : ByteArray)]) ti9 rfl rfl (cel1 rfl) b917 rfl (Nat.le_of_ble_eq_true rfl) (one_all rfl)) ?_))
                rintro w918 ⟨-, b918, c918⟩
                have H192 : Hold w F w918 [rB g 141 ([v, .int .i64 (s3.pt : Int), .int .i64 s3.mix, .int .i64 s3.size]), rR u8 5 v s3.code, rB g2 25 ([.string ⟨#[]⟩, .int .i64 0, .slice none 0 0]), rB g3 25 ([.string (⟨#[]⟩ : ByteArray), .int .i64 z, o]), rR i64 2 o ls] := Hold.setB H191 3 rfl b918 c918 rfl
                clear H191
                clear b918 c918
                refine re ?_
                exact je ((⟨#[]⟩ : ByteArray), z, o, ls, s3) ⟨z2, z3, z5, H192, ⟨by first | assumption | decide, by omega, by omega, by (try simp only [List.length_set, List.length_append, List.length_singleton]) <;> omega, ok3⟩⟩
              · refine sk ?_
                exact je (nm, z, o, ls, s3) ⟨y2, y3, y5, H191, ⟨by first | assumption | decide, by omega, by omega, by (try simp only [List.length_set, List.length_append, List.length_singleton]) <;> omega, ok3⟩⟩
            · rintro ⟨nm, z, o, ls, s3⟩ ρ w751 ⟨y2, y3, y5, H251, ⟨hnm, hz1, hz2, hls, ok3⟩⟩
              clear H191
              refine sq (sq (rg (r (mv y5) (r (bi rfl rfl rfl) (re ?_)))))
              refine jn (α := ByteArray × Int × Value × List Int × Src) (fun (nm, z, o, ls, s3) ρ w' => ρ 2 = .pointer (some ⟨g2, 0, none⟩) ∧ ρ 3 = .pointer (some ⟨g3, 0, none⟩) ∧ Hold w F w' [rB g 141 ([v, .int .i64 (s3.pt : Int), .int .i64 s3.mix, .int .i64 s3.size]), rR u8 5 v s3.code, rB g2 25 ([.string ⟨#[]⟩, .int .i64 0, .slice none 0 0]), rB g3 25 ([.string nm, .int .i64 z, o]), rR i64 2 o ls] ∧ nm.size ≤ 16 ∧ -100 ≤ z ∧ z ≤ 2000 ∧ ls.length ≤ 23 ∧ SrcOk s3) ?_ ?_
              · refine cp rfl (fun hk3 => ?_) (fun hk3 => ?_)
                · have b1217 : B w751 g3 25 ([.string nm, .int .i64 z, o]) := Hold.blk H251 3 rfl
                  refine sq (rg (r (fa Tryd.underlying25 rfl ti2 rfl y3) (ef0 (xst (vs := [.int .i64 1409]) ti2 rfl rfl (cel1 rfl) b1217 rfl (Nat.le_of_ble_eq_true rfl) (one_all rfl)) ?_)))
                  rintro w1218 ⟨-, b1218, c1218⟩
                  have H252 : Hold w F w1218 [rB g 141 ([v, .int .i64 (s3.pt : Int), .int .i64 s3.mix, .int .i64 s3.size]), rR u8 5 v s3.code, rB g2 25 ([.string ⟨#[]⟩, .int .i64 0, .slice none 0 0]), rB g3 25 ([.string nm, .int .i64 1409, o]), rR i64 2 o ls] := Hold.setB H251 3 rfl b1218 c1218 rfl
                  clear H251
                  clear b1218 c1218
                  have b1219 : B w1218 g3 25 ([.string nm, .int .i64 1409, o]) := Hold.blk H252 3 rfl
                  refine re (rg (r (fa Tryd.underlying25 rfl ti23 rfl y3) (r (ldb Tryd.underlying23 rfl rfl b1219 rfl) (ef (xbs1 (cs := [.int .i64 1]) Tryd.underlying23 ti2 rfl rfl rfl (cel1 rfl) rfl) ?_))))
                  rintro _ w1220 ⟨g76, e1220, rfl, -, b1220, c1220⟩
                  have H253 : Hold w F w1220 [rB g 141 ([v, .int .i64 (s3.pt : Int), .int .i64 s3.mix, .int .i64 s3.size]), rR u8 5 v s3.code, rB g2 25 ([.string ⟨#[]⟩, .int .i64 0, .slice none 0 0]), rB g3 25 ([.string nm, .int .i64 1409, o]), rR i64 2 o ls, rB g76 2 ([.int .i64 1])] := Hold.newB H252 e1220 b1220 c1220
                  clear H252
                  clear e1220 b1220 c1220
                  have b1222 : B w1220 g76 2 ([.int .i64 1]) := Hold.blk H253 5 rfl
                  obtain ⟨F1223, P1223, n1223, s1223, K1223⟩ := Hold.pick H253 4 rfl
                  replace P1223 : Kd.W i64 2 w1220 F1223 o ls := P1223
                  refine ef (xapb (ys := [1]) Tryd.underlying23 ti2 rfl rfl rfl P1223 b1222 (els_one (R := Kd.O i64 _) (show Kd.O i64 _ [] 1 _ from ⟨rfl, rfl⟩)) (nodup_nil n1223) (by simp; omega)) ?_
                  rintro v77_1221 w1221 ⟨F1221, A1221⟩
                  have H254 : Hold w F w1221 [rB g 141 ([v, .int .i64 (s3.pt : Int), .int .i64 s3.mix, .int .i64 s3.size]), rR u8 5 v s3.code, rB g2 25 ([.string ⟨#[]⟩, .int .i64 0, .slice none 0 0]), rB g3 25 ([.string nm, .int .i64 1409, o]), rR i64 2 v77_1221 (ls ++ [1]), rB g76 2 ([.int .i64 1])] := Hold.apd K1223 P1223 A1221 rfl
                  clear H253
                  clear A1221 K1223 P1223 n1223 s1223
                  have b1224 : B w1221 g3 25 ([.string nm, .int .i64 1409, o]) := Hold.blk H254 3 rfl
                  obtain ⟨_, R1226⟩ : ∃ F, Kd.R i64 w1221 F v77_1221 (ls ++ [1]) := Hold.row H254 4 rfl
                  refine r (fa Tryd.underlying25 rfl ti23 rfl y3) (ef0 (xst (vs := [v77_1221]) ti23 rfl rfl (cel1 (R1226).oneCell) b1224 rfl (Nat.le_of_ble_eq_true rfl) (ones1 (R1226).oneCell)) ?_)
                  rintro w1225 ⟨-, b1225, c1225⟩
                  have H255 : Hold w F w1225 [rB g 141 ([v, .int .i64 (s3.pt : Int), .int .i64 s3.mix, .int .i64 s3.size]), rR u8 5 v s3.code, rB g2 25 ([.string ⟨#[]⟩, .int .i64 0, .slice none 0 0]), rB g3 25 ([.string nm, .int .i64 1409, v77_1221]), rR i64 2 v77_1221 (ls ++ [1]), rB g76 2 ([.int .i64 1])] := Hold.setB H254 3 rfl b1225 c1225 rfl
                  clear H254
                  clear b1225 c1225
                  refine re ?_
                  have H256 : Hold w F w1225 [rB g 141 ([v, .int .i64 (s3.pt : Int), .int .i64 s3.mix, .int .i64 s3.size]), rR u8 5 v s3.code, rB g2 25 ([.string ⟨#[]⟩, .int .i64 0, .slice none 0 0]), rB g3 25 ([.string nm, .int .i64 1409, v77_1221]), rR i64 2 v77_1221 (ls ++ [1])] := (show Hold w F w1225 ([rB g 141 ([v, .int .i64 (s3.pt : Int), .int .i64 s3.mix, .int .i64 s3.size]), rR u8 5 v s3.code, rB g2 25 ([.string ⟨#[]⟩, .int .i64 0, .slice none 0 0]), rB g3 25 ([.string nm, .int .i64 1409, v77_1221]), rR i64 2 v77_1221 (ls ++ [1])] ++ [rB g76 2 ([.int .i64 1])]) from Hold.re H255 [0, 1, 2, 3, 4, 5] (by kernel_rfl) (by rfl)).drop
                  clear H255
                  exact je (nm, 1409, v77_1221, ls ++ [1], s3) ⟨y2, y3, H256, ⟨by first | assumption | decide, by omega, by omega, by (try simp only [List.length_set, List.length_append, List.length_singleton]) <;> omega, ok3⟩⟩
                · refine sk ?_
                  exact je (nm, z, o, ls, s3) ⟨y2, y3, H251, ⟨by first | assumption | decide, by omega, by omega, by (try simp only [List.length_set, List.length_append, List.length_singleton]) <;> omega, ok3⟩⟩
              · rintro ⟨nm, z, o, ls, s3⟩ ρ w811 ⟨y2, y3, H311, ⟨hnm, hz1, hz2, hls, ok3⟩⟩
                clear H251
                have b1517 : B w811 g3 25 ([.string nm, .int .i64 z, o]) := Hold.blk H311 3 rfl
                have b1518 : B w811 g2 25 ([.string ⟨#[]⟩, .int .i64 0, .slice none 0 0]) := Hold.blk H311 2 rfl
                obtain ⟨_, R1520⟩ : ∃ F, Kd.R i64 w811 F o ls := Hold.row H311 4 rfl
                refine sq (rg (r (lab [.string nm, .int .i64 z, o] Tryd.underlying25 rfl ti25 y3 b1517 rfl rfl) (ef0 (xst (vs := [.string nm, .int .i64 z, o]) ti25 y2 rfl rfl b1518 rfl (Nat.le_of_ble_eq_true rfl) (oc rfl (oc rfl (oc (R1520).oneCell on)))) ?_)))
                rintro w1519 ⟨-, b1519, c1519⟩
                have H312 : Hold w F w1519 [rB g 141 ([v, .int .i64 (s3.pt : Int), .int .i64 s3.mix, .int .i64 s3.size]), rR u8 5 v s3.code, rB g2 25 ([.string nm, .int .i64 z, o]), rB g3 25 ([.string nm, .int .i64 z, o]), rR i64 2 o ls] := Hold.setB H311 2 rfl b1519 c1519 rfl
                clear H311
                clear b1519 c1519
                refine re (rt ?_)
                have b1521 : B w1519 g2 25 ([.string nm, .int .i64 z, o]) := Hold.blk H312 2 rfl
                have H313 : Hold w F w1519 [rB g 141 ([v, .int .i64 (s3.pt : Int), .int .i64 s3.mix, .int .i64 s3.size]), rR u8 5 v s3.code, rR i64 2 o ls] := (show Hold w F w1519 ([rB g 141 ([v, .int .i64 (s3.pt : Int), .int .i64 s3.mix, .int .i64 s3.size]), rR u8 5 v s3.code, rR i64 2 o ls] ++ [rB g2 25 ([.string nm, .int .i64 z, o]), rB g3 25 ([.string nm, .int .i64 z, o])]) from Hold.re H312 [0, 1, 4, 2, 3] (by kernel_rfl) (by rfl)).drop
                clear H312
                exact finc  (cs := [.string nm, .int .i64 z, o]) Tryd.results51 Tryd.underlying25 rfl ti25 y2 b1521 rfl  ⟨_, _, _, _, _, rfl, hnm, by omega, ok3, H313⟩
end Go.Proofs.YtgpcanjmgdmdhaaDoor
