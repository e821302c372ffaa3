/-
  SEVERAL TEXTS OF MY OWN IN ONE: 74, 75, 76, 77. No condition.
-/
import Derived.Test.YtgpcanjmgdmdhaaDoorM1
import Derived.Test.YtgpcanjmgdmdhaaDoorStr
import Derived.Test.YtgpcanjmgdmdhaaDoor63
import Derived.Test.YtgpcanjmgdmdhaaDoorShelf
import Derived.Lib.AtoiErrMem
namespace Go.Proofs.YtgpcanjmgdmdhaaDoor
open Go Go.Eng
set_option maxRecDepth 100000
set_option maxHeartbeats 4000000
set_option linter.unusedVariables false
set_option linter.unusedSimpArgs false
theorem l6Cut {w : World} {F : List Nat} {v : Value} {xs : List Int} {sep : Int} (hx : u8.R w F v xs) (lx : xs.length ≤ 1000000) : Ret Tryd.prog 101 #[v, .int .u8 sep] w (fun r w' => Hold w [] w' [rR kStr 9 r ((cutL sep xs).map mkS)]) := by
  refine enter Tryd.func101 rfl Tryd.ntmps101 (by rfl) (by rfl) ?_
  have H0 : Hold w [] w [] := Hold.start w
  refine sq (rg (r (sa rfl) (re (sq (rg (ef (xbs0 (dk := kStr) Tryd.underlying54 ti9) ?_))))))
  rintro v1 w1 N1
  have H1 : Hold w [] w1 [rR kStr 9 v1 ([])] := Hold.newr H0 N1
  clear H0
  refine r (sa rfl) (re (sq (rg (r (sa rfl) (re (sq (sq (rg (r (sa rfl) (re (bl ?_)))))))))))
  refine lp (α := (Nat × Nat) × List ByteArray × Value) (fun ((i, fr), os, u) ρ w' => ρ 0 = v ∧ ρ 1 = .int .u8 sep ∧ ρ 5 = u ∧ ρ 6 = .int .i64 (fr : Int) ∧ ρ 7 = .int .i64 (i : Int) ∧ Hold w [] w' [rR kStr 9 u os] ∧ fr ≤ i ∧ i ≤ xs.length ∧ os.length ≤ i ∧ os ++ (preL ((xs.take i).drop fr) (cutL sep (xs.drop i))).map mkS = (cutL sep xs).map mkS) (fun ((i, fr), os, u) => xs.length - i) ((0, 0), [], v1) ?_ ?_
  · exact ⟨rfl, rfl, rfl, rfl, rfl, H1, ⟨by omega, by omega, by simp, by simp [preL_nil (cutL_ne _ _)]⟩⟩
  clear H1
  rintro ⟨⟨i, fr⟩, os, u⟩ ρ w502 ⟨y0, y1, y5, y6, y7, H2, hfr, hi, ho, hinv⟩
  refine sq (sq (rg (r (mv y7) (r (mv y0) (r (ln Tryd.underlying22 rfl ((hx.t (Hold.ch H2)))) (r (bi rfl rfl rfl) (re ?_)))))))
  refine cp rfl (fun h => ?_) (fun h => ?_)
  · have hi' : i < xs.length := by omega
    refine sk (sq (bl (sq (rg (r (mv y0) (r (mv y7) ?_))))))
    obtain ⟨c17_2, ad17_2, k17_2, e17_2, p17_2⟩ := Kd.R.place hx i (by omega)
    refine r (ix (j := i) Tryd.underlying22 ti5 e17_2 rfl (by omega)) (r (ld Tryd.underlying5 rfl rfl (Ch.cell (Hold.ch H2) p17_2.cell)) (r (mv y1) (r (bi rfl rfl rfl) (re ?_))))
    refine cp rfl (fun h1 => ?_) (fun h1 => ?_)
    · rw [cut_step_sep hi' hfr h1, List.map_cons] at hinv
      refine sq ?_
      refine gen (fun ρ => ρ 0 = v ∧ ρ 1 = .int .u8 sep ∧ ρ 5 = u ∧ ρ 6 = .int .i64 (fr : Int) ∧ ρ 7 = .int .i64 (i : Int) ∧ True) ⟨y0, y1, y5, y6, y7, trivial⟩ ?_
      rintro ρ ⟨z0, z1, z5, z6, z7, -⟩
      obtain ⟨F3, us3, R3⟩ := Kd.R.sl (hx.t (Hold.ch H2)) (fr) (i) (by first | omega | (simp; omega)) (by first | omega | (simp; omega))
      have e3 : (xs.take i).drop fr = (xs.take i).drop fr := by first | (rw [List.take_length, List.drop_drop]; done) | (rw [List.drop_take]; done) | (simp; done) | (rw [List.drop_take]; congr 1; omega) | (rw [List.take_length, List.drop_drop]; congr 1; omega)
      rw [e3] at R3
      refine rg (r (mv z5) (r (mv z0) (r (mv z6) (r (mv z7) (r (slr (fr) (i) Tryd.underlying22 ti5 (hx.t (Hold.ch H2)) rfl rfl rfl ⟨by omega, by omega⟩) (r (cvbs Tryd.underlying22 Tryd.underlying5 Tryd.underlying9 R3 rfl) (ef (xbs1 (cs := [.string (mkS ((xs.take i).drop fr))]) Tryd.underlying54 ti9 rfl rfl rfl (cel1 rfl) rfl) ?_)))))))
      rintro _ w4 ⟨g27, e4, rfl, -, b4, c4⟩
      have H3 : Hold w [] w4 [rR kStr 9 u os, rB g27 9 ([.string (mkS ((xs.take i).drop fr))])] := Hold.newB H2 e4 b4 c4
      clear H2
      clear e4 b4 c4
      have b6 : B w4 g27 9 ([.string (mkS ((xs.take i).drop fr))]) := Hold.blk H3 1 rfl
      obtain ⟨F7, P7, n7, s7, K7⟩ := Hold.pick H3 0 rfl
      replace P7 : Kd.W kStr 9 w4 F7 u os := P7
      refine ef (xapb (ys := [mkS ((xs.take i).drop fr)]) Tryd.underlying54 ti9 rfl rfl rfl P7 b6 (els_one (R := Kd.O kStr _) (show Kd.O kStr _ [] (mkS ((xs.take i).drop fr)) _ from ⟨rfl, rfl⟩)) (nodup_nil n7) (by simp; omega)) ?_
      rintro v28_5 w5 ⟨F5, A5⟩
      have H4 : Hold w [] w5 [rR kStr 9 v28_5 (os ++ [mkS ((xs.take i).drop fr)]), rB g27 9 ([.string (mkS ((xs.take i).drop fr))])] := Hold.apd K7 P7 A5 rfl
      clear H3
      clear A5 K7 P7 n7 s7
      refine r (sa rfl) (re (rg (r (mv z7) (r (ad (a := (i : Int)) (b := 1) ((i : Int) + 1) rfl rfl (by omega)) (r (sa rfl) (re (be ?_)))))))
      refine gen (fun ρ => ρ 0 = v ∧ ρ 1 = .int .u8 sep ∧ ρ 5 = v28_5 ∧ ρ 6 = .int .i64 ((i : Int) + 1) ∧ ρ 7 = .int .i64 (i : Int) ∧ True) ⟨z0, z1, rfl, rfl, z7, trivial⟩ ?_
      rintro ρ ⟨z0, z1, z5, z6, z7, -⟩
      refine rg (r (mv z7) (r (ad (a := (i : Int)) (b := 1) ((i : Int) + 1) rfl rfl (by omega)) (r (sa rfl) (re ?_))))
      have H5 : Hold w [] w5 [rR kStr 9 v28_5 (os ++ [mkS ((xs.take i).drop fr)])] := (show Hold w [] w5 ([rR kStr 9 v28_5 (os ++ [mkS ((xs.take i).drop fr)])] ++ [rB g27 9 ([.string (mkS ((xs.take i).drop fr))])]) from Hold.re H4 [0, 1] (by kernel_rfl) (by rfl)).drop
      clear H4
      exact ag ((i + 1, i + 1), os ++ [mkS ((xs.take i).drop fr)], v28_5) ⟨z0, z1, z5, z6, rfl, H5, ⟨by omega, by omega, by simp; omega, by rw [List.append_assoc]; exact hinv⟩⟩ (by first | omega | (dsimp only; omega))
    · rw [cut_step_no hi' hfr h1] at hinv
      refine sk (be ?_)
      refine gen (fun ρ => ρ 0 = v ∧ ρ 1 = .int .u8 sep ∧ ρ 5 = u ∧ ρ 6 = .int .i64 (fr : Int) ∧ ρ 7 = .int .i64 (i : Int) ∧ True) ⟨y0, y1, y5, y6, y7, trivial⟩ ?_
      rintro ρ ⟨z0, z1, z5, z6, z7, -⟩
      refine rg (r (mv z7) (r (ad (a := (i : Int)) (b := 1) ((i : Int) + 1) rfl rfl (by omega)) (r (sa rfl) (re ?_))))
      exact ag ((i + 1, fr), os, u) ⟨z0, z1, z5, z6, rfl, H2, ⟨by omega, by omega, by omega, hinv⟩⟩ (by first | omega | (dsimp only; omega))
  · have ei : i = xs.length := by omega
    rw [ei, cut_last, List.map_cons, List.map_nil] at hinv
    obtain ⟨F2, us2, R2⟩ := Kd.R.sl (hx.t (Hold.ch H2)) (fr) (xs.length) (by first | omega | (simp; omega)) (by first | omega | (simp; omega))
    have e2 : (xs.take xs.length).drop fr = xs.drop fr := by first | (rw [List.take_length, List.drop_drop]; done) | (rw [List.drop_take]; done) | (simp; done) | (rw [List.drop_take]; congr 1; omega) | (rw [List.take_length, List.drop_drop]; congr 1; omega)
    rw [e2] at R2
    refine ex rfl (sq (rg (r (mv y5) (r (mv y0) (r (mv y6) (r (slrl (fr) Tryd.underlying22 ti5 (hx.t (Hold.ch H2)) rfl rfl (by omega)) (r (cvbs Tryd.underlying22 Tryd.underlying5 Tryd.underlying9 R2 rfl) (ef (xbs1 (cs := [.string (mkS (xs.drop fr))]) Tryd.underlying54 ti9 rfl rfl rfl (cel1 rfl) rfl) ?_))))))))
    rintro _ w3 ⟨g36, e3, rfl, -, b3, c3⟩
    have H3 : Hold w [] w3 [rR kStr 9 u os, rB g36 9 ([.string (mkS (xs.drop fr))])] := Hold.newB H2 e3 b3 c3
    clear H2
    clear e3 b3 c3
    have b5 : B w3 g36 9 ([.string (mkS (xs.drop fr))]) := Hold.blk H3 1 rfl
    obtain ⟨F6, P6, n6, s6, K6⟩ := Hold.pick H3 0 rfl
    replace P6 : Kd.W kStr 9 w3 F6 u os := P6
    refine ef (xapb (ys := [mkS (xs.drop fr)]) Tryd.underlying54 ti9 rfl rfl rfl P6 b5 (els_one (R := Kd.O kStr _) (show Kd.O kStr _ [] (mkS (xs.drop fr)) _ from ⟨rfl, rfl⟩)) (nodup_nil n6) (by simp; omega)) ?_
    rintro v37_4 w4 ⟨F4, A4⟩
    have H4 : Hold w [] w4 [rR kStr 9 v37_4 (os ++ [mkS (xs.drop fr)]), rB g36 9 ([.string (mkS (xs.drop fr))])] := Hold.apd K6 P6 A4 rfl
    clear H3
    clear A4 K6 P6 n6 s6
    refine r (sa rfl) (re (rt ?_))
    have H5 : Hold w [] w4 [rR kStr 9 v37_4 (os ++ [mkS (xs.drop fr)])] := (show Hold w [] w4 ([rR kStr 9 v37_4 (os ++ [mkS (xs.drop fr)])] ++ [rB g36 9 ([.string (mkS (xs.drop fr))])]) from Hold.re H4 [0, 1] (by kernel_rfl) (by rfl)).drop
    clear H4
    exact fin1 (v := v37_4) Tryd.results101 rfl (by rw [← hinv]; exact H5)
def goodF (s : ByteArray) : Prop := s.size ≠ 0 ∧ ∀ b, b ∈ nums8 s → 33 ≤ b ∧ b ≤ 126
instance (s : ByteArray) : Decidable (goodF s) := inferInstanceAs (Decidable (_ ∧ ∀ b, b ∈ nums8 s → 33 ≤ b ∧ b ≤ 126))
/-- The fields of a text: none, if one of them is not printable or is empty. -/
def cutF (xs : List Int) : List ByteArray := (cutL 32 xs).map mkS
def fieldsF (xs : List Int) : List ByteArray := if ∀ f, f ∈ cutF xs → goodF f then cutF xs else []
theorem cutF_size {xs : List Int} : ∀ f, f ∈ cutF xs → f.size ≤ xs.length := by
  intro f hf
  obtain ⟨g, hg, rfl⟩ := List.mem_map.1 hf
  rw [mkS_size]; exact (cutL_mem g hg).1
theorem cutF_len (xs : List Int) : (cutF xs).length ≤ xs.length + 1 := by rw [cutF, List.length_map]; exact cutL_len _ _
theorem fieldsF_no {xs : List Int} {f : ByteArray} (hf : f ∈ cutF xs) (hn : ¬ goodF f) : fieldsF xs = [] := by
  unfold fieldsF; rw [if_neg (fun h => hn (h f hf))]
theorem fieldsF_yes {xs : List Int} (h : ∀ f, f ∈ cutF xs → goodF f) : fieldsF xs = cutF xs := by unfold fieldsF; rw [if_pos h]
theorem l6Fields {w : World} {F : List Nat} {v : Value} {xs : List Int} (hx : u8.R w F v xs) (lx : xs.length ≤ 1000000) : Ret Tryd.prog 74 #[v] w (fun r w' => Hold w [] w' [rR kStr 9 r (fieldsF xs)]) := by
  obtain ⟨fs, hfs⟩ : ∃ fs, fs = cutF xs := ⟨_, rfl⟩
  have hsz := cutF_size (xs := xs)
  have hlen := cutF_len xs
  rw [← hfs] at hsz hlen
  refine enter Tryd.func74 rfl Tryd.ntmps74 (by rfl) (by rfl) ?_
  have H0 : Hold w [] w [] := Hold.start w
  refine sq (rg (r (sa rfl) (re (sq (rg (r (mv rfl) (cl go101 (l6Cut (hx.t (Hold.ch H0)) lx) (ac rfl (ac rfl an)) ?_)))))))
  rintro t wt Ht
  have H1 : Hold w [] wt [rR kStr 9 t (cutF xs)] := Hold.news H0 Ht
  clear H0
  clear Ht
  refine r (sa rfl) (re (sq (sq (rg (r (sa rfl) (re (bl ?_)))))))
  rw [← hfs] at H1
  refine lp (α := Nat) (fun i ρ w' => ρ 3 = t ∧ ρ 4 = .int .i64 (i : Int) ∧ Hold w [] w' [rR kStr 9 t fs] ∧ i ≤ fs.length ∧ ∀ j (hj : j < fs.length), j < i → goodF fs[j]) (fun i => fs.length - i) 0 ?_ ?_
  · exact ⟨rfl, rfl, H1, ⟨by omega, fun j _ h => absurd h (by omega)⟩⟩
  clear H1
  rintro i ρ w502 ⟨y3, y4, H2, hi, hg⟩
  obtain ⟨_, R2⟩ : ∃ F, Kd.R kStr w502 F t fs := Hold.row H2 0 rfl
  refine sq (sq (rg (r (mv y4) (r (mv y3) (r (ln Tryd.underlying54 rfl (R2)) (r (bi rfl rfl rfl) (re ?_)))))))
  refine cp rfl (fun h => ?_) (fun h => ?_)
  · have hi' : i < fs.length := by omega
    have hz := hsz _ (List.getElem_mem hi')
    have hmem : fs[i] ∈ cutF xs := by rw [← hfs]; exact List.getElem_mem hi'
    refine sk (sq (bl (sq (sq (rg (r (mv y3) (r (mv y4) ?_)))))))
    obtain ⟨c16_3, ad16_3, k16_3, e16_3, p16_3⟩ := Kd.R.place R2 i (by omega)
    refine r (ix (j := i) Tryd.underlying54 ti9 e16_3 rfl (by omega)) (r (ld Tryd.underlying9 rfl rfl p16_3.cell) (r (lns Tryd.underlying9 rfl) (r (bi rfl rfl rfl) (re ?_))))
    refine cp rfl (fun h1 => ?_) (fun h1 => ?_)
    · refine sq ?_
      refine gen (fun ρ => ρ 3 = t ∧ ρ 4 = .int .i64 (i : Int) ∧ True) ⟨y3, y4, trivial⟩ ?_
      rintro ρ ⟨z3, z4, -⟩
      refine rg (ef (xbs0 (dk := kStr) Tryd.underlying54 ti9) ?_)
      rintro v4 w4 N4
      have H3 : Hold w [] w4 [rR kStr 9 t fs, rR kStr 9 v4 ([])] := Hold.newr H2 N4
      clear H2
      refine r (sa rfl) (re (rt ?_))
      have H4 : Hold w [] w4 [rR kStr 9 v4 ([])] := (show Hold w [] w4 ([rR kStr 9 v4 ([])] ++ [rR kStr 9 t fs]) from Hold.re H3 [1, 0] (by kernel_rfl) (by rfl)).drop
      clear H3
      exact fin1 (v := v4) Tryd.results74 rfl (by rw [fieldsF_no hmem (fun g => g.1 (by omega))]; exact H4)
    · refine sk (sq ?_)
      refine gen (fun ρ => ρ 3 = t ∧ ρ 4 = .int .i64 (i : Int) ∧ True) ⟨y3, y4, trivial⟩ ?_
      rintro ρ ⟨z3, z4, -⟩
      refine rg (r (sa rfl) (re (bl ?_)))
      refine lp (α := Nat) (fun j ρ w' => ρ 3 = t ∧ ρ 4 = .int .i64 (i : Int) ∧ ρ 5 = .int .i64 (j : Int) ∧ Hold w [] w' [rR kStr 9 t fs] ∧ j ≤ fs[i].size ∧ ∀ m (hm : m < (nums8 fs[i]).length), m < j → 33 ≤ (nums8 fs[i])[m] ∧ (nums8 fs[i])[m] ≤ 126) (fun j => fs[i].size - j) 0 ?_ ?_
      · exact ⟨z3, z4, rfl, H2, ⟨by omega, fun m _ h => absurd h (by omega)⟩⟩
      clear H2
      rintro j ρ w503 ⟨y3, y4, y5, H3, hj, hb⟩
      obtain ⟨_, R4⟩ : ∃ F, Kd.R kStr w503 F t fs := Hold.row H3 0 rfl
      refine sq (sq (rg (r (mv y5) (r (mv y3) (r (mv y4) ?_)))))
      obtain ⟨c24_5, ad24_5, k24_5, e24_5, p24_5⟩ := Kd.R.place R4 i (by omega)
      refine r (ix (j := i) Tryd.underlying54 ti9 e24_5 rfl (by omega)) (r (ld Tryd.underlying9 rfl rfl p24_5.cell) (r (lns Tryd.underlying9 rfl) (r (bi rfl rfl rfl) (re ?_))))
      refine cp rfl (fun h2 => ?_) (fun h2 => ?_)
      · have hj' : j < fs[i].size := by omega
        have hj2 : j < (nums8 fs[i]).length := by rw [nums8_len]; exact hj'
        refine sk (sq (bl (sq (rg (r (mv y3) (r (mv y4) ?_))))))
        obtain ⟨c32_6, ad32_6, k32_6, e32_6, p32_6⟩ := Kd.R.place R4 i (by omega)
        refine r (ix (j := i) Tryd.underlying54 ti9 e32_6 rfl (by omega)) (r (ld Tryd.underlying9 rfl rfl p32_6.cell) (r (mv y5) (r (six (j := j) Tryd.underlying9 rfl rfl (by omega)) (r (bi rfl rfl rfl) (r (mv rfl) ?_)))))
        refine sp 37 rfl (fun h3 => ?_) (fun h3 => ?_)
        · refine gn rfl rfl rfl (gn rfl rfl rfl (gn rfl rfl rfl (gn rfl rfl rfl (gn rfl rfl rfl (gn rfl rfl rfl (gn rfl rfl rfl (r (pk rfl rfl) (re (ct rfl (sq ?_))))))))))
          refine gen (fun ρ => ρ 3 = t ∧ ρ 4 = .int .i64 (i : Int) ∧ ρ 5 = .int .i64 (j : Int) ∧ True) ⟨y3, y4, y5, trivial⟩ ?_
          rintro ρ ⟨z3, z4, z5, -⟩
          refine rg (ef (xbs0 (dk := kStr) Tryd.underlying54 ti9) ?_)
          rintro v7 w7 N7
          have H4 : Hold w [] w7 [rR kStr 9 t fs, rR kStr 9 v7 ([])] := Hold.newr H3 N7
          clear H3
          refine r (sa rfl) (re (rt ?_))
          have H5 : Hold w [] w7 [rR kStr 9 v7 ([])] := (show Hold w [] w7 ([rR kStr 9 v7 ([])] ++ [rR kStr 9 t fs]) from Hold.re H4 [1, 0] (by kernel_rfl) (by rfl)).drop
          clear H4
          exact fin1 (v := v7) Tryd.results74 rfl (by rw [fieldsF_no hmem (fun g => by have := g.2 _ (List.getElem_mem hj2); omega)]; exact H5)
        · refine gy rfl rfl rfl (r (mv y3) (gy rfl rfl rfl (r (mv y4) (gy rfl rfl rfl ?_))))
          obtain ⟨c40_7, ad40_7, k40_7, e40_7, p40_7⟩ := Kd.R.place R4 i (by omega)
          refine r (ix (j := i) Tryd.underlying54 ti9 e40_7 rfl (by omega)) (gy rfl rfl rfl (r (ld Tryd.underlying9 rfl rfl p40_7.cell) (gy rfl rfl rfl (r (mv y5) (gy rfl rfl rfl (r (six (j := j) Tryd.underlying9 rfl rfl (by omega)) (gy rfl rfl rfl (r (bi rfl rfl rfl) (r (pk rfl rfl) (re ?_))))))))))
          refine cp rfl (fun h4 => ?_) (fun h4 => ?_)
          · refine sq ?_
            refine gen (fun ρ => ρ 3 = t ∧ ρ 4 = .int .i64 (i : Int) ∧ ρ 5 = .int .i64 (j : Int) ∧ True) ⟨y3, y4, y5, trivial⟩ ?_
            rintro ρ ⟨z3, z4, z5, -⟩
            refine rg (ef (xbs0 (dk := kStr) Tryd.underlying54 ti9) ?_)
            rintro v8 w8 N8
            have H4 : Hold w [] w8 [rR kStr 9 t fs, rR kStr 9 v8 ([])] := Hold.newr H3 N8
            clear H3
            refine r (sa rfl) (re (rt ?_))
            have H5 : Hold w [] w8 [rR kStr 9 v8 ([])] := (show Hold w [] w8 ([rR kStr 9 v8 ([])] ++ [rR kStr 9 t fs]) from Hold.re H4 [1, 0] (by kernel_rfl) (by rfl)).drop
            clear H4
            exact fin1 (v := v8) Tryd.results74 rfl (by rw [fieldsF_no hmem (fun g => by have := g.2 _ (List.getElem_mem hj2); omega)]; exact H5)
          · refine sk (be ?_)
            refine gen (fun ρ => ρ 3 = t ∧ ρ 4 = .int .i64 (i : Int) ∧ ρ 5 = .int .i64 (j : Int) ∧ True) ⟨y3, y4, y5, trivial⟩ ?_
            rintro ρ ⟨z3, z4, z5, -⟩
            refine rg (r (mv z5) (r (ad (a := (j : Int)) (b := 1) ((j : Int) + 1) rfl rfl (by omega)) (r (sa rfl) (re ?_))))
            exact ag (j + 1) ⟨z3, z4, rfl, H3, ⟨by omega, fun m hm hlt => by
  by_cases em : m = j
  · subst em; exact ⟨by omega, by omega⟩
  · exact hb m hm (by omega)⟩⟩ (by first | omega | (dsimp only; omega))
      · have hgi : goodF fs[i] := ⟨by omega, fun b hb' => by
          obtain ⟨m, hm, rfl⟩ := List.getElem_of_mem hb'
          exact hb m hm (by rw [nums8_len] at hm; omega)⟩
        refine ex rfl (be (rg (r (mv y4) (r (ad (a := (i : Int)) (b := 1) ((i : Int) + 1) rfl rfl (by omega)) (r (sa rfl) (re ?_))))))
        exact ag (i + 1) ⟨y3, rfl, H3, ⟨by omega, fun m hm hlt => by
  by_cases em : m = i
  · subst em; exact hgi
  · exact hg m hm (by omega)⟩⟩ (by first | omega | (dsimp only; omega))
  · have hall : ∀ f, f ∈ cutF xs → goodF f := fun f hf => by
      rw [← hfs] at hf
      obtain ⟨m, hm, rfl⟩ := List.getElem_of_mem hf
      exact hg m hm (by omega)
    refine ex rfl (sq (rg (r (mv y3) (r (sa rfl) (re (rt ?_))))))
    exact fin1 (v := t) Tryd.results74 rfl (by rw [fieldsF_yes hall, ← hfs]; exact H2)
theorem numL_cons {xs : List Int} (h1 : 1 < xs.length) (h0 : xs[0] = 45) : numL xs = (-(numL (xs.drop 1)).1, (numL (xs.drop 1)).2 && (!decide (xs[1] = 48)) && (!decide (xs[1] = 45))) := by
  match xs, h1, h0 with
  | x :: y :: ys, _, h0 => simp only [List.getElem_cons_zero] at h0; subst h0; exact numL_neg y ys
theorem head0 {xs : List Int} (h : 0 < xs.length) : xs.head? = some xs[0] := by cases xs with
  | nil => simp at h
  | cons x xs => rfl
theorem numL_no {xs : List Int} (hb : ¬ (1 < xs.length ∧ xs.head? = some 45)) (h : xs.length = 0 ∨ 9 < xs.length ∨ (xs.head? = some 48 ∧ 1 < xs.length) ∨ ¬ dgs xs) : numL xs = (0, false) := by
  rw [numL_base hb, numB]
  by_cases h1 : xs.length = 0 ∨ 9 < xs.length ∨ (xs.head? = some 48 ∧ 1 < xs.length)
  · rw [if_pos h1]
  · rw [if_neg h1, if_neg]
    rcases h with h | h | h | h
    · exact absurd (.inl h) h1
    · exact absurd (.inr (.inl h)) h1
    · exact absurd (.inr (.inr h)) h1
    · exact h
theorem numL_yes {xs : List Int} (hb : ¬ (1 < xs.length ∧ xs.head? = some 45)) (h1 : ¬ (xs.length = 0 ∨ 9 < xs.length ∨ (xs.head? = some 48 ∧ 1 < xs.length))) (h : dgs xs) : numL xs = (decV xs, true) := by
  rw [numL_base hb, numB, if_neg h1, if_pos h]
theorem l6Number_n (m : Nat) (ih : ∀ (k : Nat) (w : World) (s : ByteArray), k < m → s.size = k → Ret Tryd.prog 104 #[.string s] w (fun r w' => r = .tuple #[.int .i64 (numL (nums8 s)).1, .bool (numL (nums8 s)).2] ∧ Ch [] w w')) (w : World) (s : ByteArray) (hm : s.size = m) : Ret Tryd.prog 104 #[.string s] w (fun r w' => r = .tuple #[.int .i64 (numL (nums8 s)).1, .bool (numL (nums8 s)).2] ∧ Ch [] w w') := by
  have hl := nums8_len s
  have ok := nums8_ok s
  refine enter Tryd.func104 rfl Tryd.ntmps104 (by rfl) (by rfl) ?_
  have H0 : Hold w [] w [] := Hold.start w
  refine sq (rg (r (sa rfl) (r (sa rfl) (re (sq (sq (rg (r (mv rfl) (r (lns Tryd.underlying9 rfl) (r (bi rfl rfl rfl) (r (mv rfl) ?_)))))))))))
  refine sp 11 rfl (fun hl1 => ?_) (fun hl1 => ?_)
  · have hp : 0 < (nums8 s).length := by omega
    have hh := head0 hp
    refine gy rfl rfl rfl (r (mv rfl) (gy rfl rfl rfl (r (six (j := 0) Tryd.underlying9 rfl rfl (by omega)) (gy rfl rfl rfl (r (bi rfl rfl rfl) (r (pk rfl rfl) (re ?_)))))))
    refine cp rfl (fun h45 => ?_) (fun h45 => ?_)
    · have hb := numL_bd ((nums8 s).drop 1)
      have hn := nums8_mkS (xs := (nums8 s).drop 1) (fun z hz => ok z (List.mem_of_mem_drop hz))
      have hc := numL_cons (by omega) h45
      have ih2 := fun w9 => ih (mkS ((nums8 s).drop 1)).size w9 _ (by rw [mkS_size, List.length_drop]; omega) rfl
      rw [hn] at ih2
      refine sq ?_
      refine gen (fun ρ => ρ 0 = .string s ∧ ρ 2 = .int .i64 0 ∧ ρ 3 = .bool false ∧ True) ⟨rfl, rfl, rfl, trivial⟩ ?_
      rintro ρ ⟨z0, z2, z3, -⟩
      refine rg (r (mv z0) (r (ssl 1 Tryd.underlying9 rfl rfl (by omega)) (cl go104 (ih2 _) (ac rfl an) ?_)))
      rintro r wr ⟨rfl, cr⟩
      have H1 : Hold w [] wr [] := Hold.t H0 cr
      clear H0
      clear cr
      refine r (mv rfl) (r (xt rfl rfl) (r (xt rfl rfl) (r (sa rfl) (r (sa rfl) (re (sq (rd mixed (by kernel_rfl) (q (mv rfl) (q (ng (-(numL ((nums8 s).drop 1)).1) rfl (IntWalk.i64_in _ (by omega))) (q (mv rfl) (q (mv rfl) ?_)))))))))))
      refine spbq 25 rfl (fun h2 => ?_) (fun h2 => ?_)
      · refine gyq rfl rfl rfl (q (mv z0) (gyq rfl rfl rfl (q (six (j := 1) Tryd.underlying9 rfl rfl (by omega)) (gyq rfl rfl rfl (q (bi rfl rfl rfl) (q (pk rfl rfl) (q (mv rfl) ?_)))))))
        refine spnq 30 rfl (fun h48 => ?_) (fun h48 => ?_)
        · refine gyq rfl rfl rfl (q (mv z0) (gyq rfl rfl rfl (q (six (j := 1) Tryd.underlying9 rfl rfl (by omega)) (gyq rfl rfl rfl (q (bi rfl rfl rfl) (q (pk rfl rfl) (q (sa rfl) (q (sa rfl) (me ?_)))))))))
          intro w1 c1
          have H2 : Hold w [] w1 [] := Hold.t H1 c1
          clear H1
          refine rt ?_
          exact fin2 (v := .int .i64 (-(numL ((nums8 s).drop 1)).1)) (v' := .bool (!decide (((nums8 s)[1]'(by rw [nums8_len]; omega)) = 45))) Tryd.results104 rfl rfl ⟨(by rw [hc, h2]; simp [h48]), Hold.ch H2⟩
        · refine gnq rfl rfl rfl (gnq rfl rfl rfl (gnq rfl rfl rfl (q (pk rfl rfl) (q (sa rfl) (q (sa rfl) (me ?_))))))
          intro w1 c1
          have H2 : Hold w [] w1 [] := Hold.t H1 c1
          clear H1
          refine rt ?_
          exact fin2 (v := .int .i64 (-(numL ((nums8 s).drop 1)).1)) (v' := .bool false) Tryd.results104 rfl rfl ⟨(by rw [hc, h2]; simp [h48]), Hold.ch H2⟩
      · refine gnq rfl rfl rfl (gnq rfl rfl rfl (gnq rfl rfl rfl (q (pk rfl rfl) (q (mv rfl) (gnq rfl rfl rfl (gnq rfl rfl rfl (gnq rfl rfl rfl (q (pk rfl rfl) (q (sa rfl) (q (sa rfl) (me ?_)))))))))))
        intro w1 c1
        have H2 : Hold w [] w1 [] := Hold.t H1 c1
        clear H1
        refine rt ?_
        exact fin2 (v := .int .i64 (-(numL ((nums8 s).drop 1)).1)) (v' := .bool false) Tryd.results104 rfl rfl ⟨(by rw [hc, h2]; simp [h2]), Hold.ch H2⟩
    · have hB : ¬ (1 < (nums8 s).length ∧ (nums8 s).head? = some 45) := (fun g => h45 (by have := g.2; rw [hh] at this; exact Option.some.inj this))
      refine sk (sq (sq ?_))
      refine gen (fun ρ => ρ 0 = .string s ∧ ρ 2 = .int .i64 0 ∧ ρ 3 = .bool false ∧ True) ⟨rfl, rfl, rfl, trivial⟩ ?_
      rintro ρ ⟨z0, z2, z3, -⟩
      refine rg (r (mv z0) (r (lns Tryd.underlying9 rfl) (r (bi rfl rfl rfl) (r (mv rfl) ?_))))
      refine sp 38 rfl (fun b0 => ?_) (fun b0 => ?_)
      · refine gn rfl rfl rfl (gn rfl rfl rfl (gn rfl rfl rfl (r (pk rfl rfl) (r (mv rfl) (gn rfl rfl rfl (gn rfl rfl rfl (gn rfl rfl rfl (gn rfl rfl rfl (gu rfl rfl rfl (gu rfl rfl rfl (gu rfl rfl rfl (gn rfl rfl rfl (r (pk rfl rfl) (re (ct rfl (sq ?_))))))))))))))))
        refine gen (fun ρ => ρ 0 = .string s ∧ ρ 2 = .int .i64 0 ∧ ρ 3 = .bool false ∧ True) ⟨z0, z2, z3, trivial⟩ ?_
        rintro ρ ⟨z0, z2, z3, -⟩
        refine rg (r (sa rfl) (r (sa rfl) (re (rt ?_))))
        exact fin2 (v := .int .i64 0) (v' := .bool false) Tryd.results104 rfl rfl ⟨(by rw [numL_no hB (.inl (by omega))]), Hold.ch H0⟩
      · refine gy rfl rfl rfl (r (mv z0) (gy rfl rfl rfl (r (lns Tryd.underlying9 rfl) (gy rfl rfl rfl (r (bi rfl rfl rfl) (r (pk rfl rfl) (r (mv rfl) ?_)))))))
        refine sp 43 rfl (fun b9 => ?_) (fun b9 => ?_)
        · refine gn rfl rfl rfl (gn rfl rfl rfl (gn rfl rfl rfl (gn rfl rfl rfl (gu rfl rfl rfl (gu rfl rfl rfl (gu rfl rfl rfl (gn rfl rfl rfl (r (pk rfl rfl) (re (ct rfl (sq ?_)))))))))))
          refine gen (fun ρ => ρ 0 = .string s ∧ ρ 2 = .int .i64 0 ∧ ρ 3 = .bool false ∧ True) ⟨z0, z2, z3, trivial⟩ ?_
          rintro ρ ⟨z0, z2, z3, -⟩
          refine rg (r (sa rfl) (r (sa rfl) (re (rt ?_))))
          exact fin2 (v := .int .i64 0) (v' := .bool false) Tryd.results104 rfl rfl ⟨(by rw [numL_no hB (.inr (.inl (by omega)))]), Hold.ch H0⟩
        · have hp : 0 < (nums8 s).length := by omega
          have hh := head0 hp
          refine gy rfl rfl rfl (r (mv z0) (gy rfl rfl rfl (r (six (j := 0) Tryd.underlying9 rfl rfl (by omega)) (gy rfl rfl rfl (r (bi rfl rfl rfl) (gy rfl rfl rfl (r (mv rfl) ?_)))))))
          refine sp 47 rfl (fun b48 => ?_) (fun b48 => ?_)
          · refine gy rfl rfl rfl (r (mv z0) (gy rfl rfl rfl (r (lns Tryd.underlying9 rfl) (gy rfl rfl rfl (r (bi rfl rfl rfl) (gy rfl rfl rfl (r (pk rfl rfl) (r (pk rfl rfl) (re ?_)))))))))
            refine cp rfl (fun b1 => ?_) (fun b1 => ?_)
            · refine sq ?_
              refine gen (fun ρ => ρ 0 = .string s ∧ ρ 2 = .int .i64 0 ∧ ρ 3 = .bool false ∧ True) ⟨z0, z2, z3, trivial⟩ ?_
              rintro ρ ⟨z0, z2, z3, -⟩
              refine rg (r (sa rfl) (r (sa rfl) (re (rt ?_))))
              exact fin2 (v := .int .i64 0) (v' := .bool false) Tryd.results104 rfl rfl ⟨(by rw [numL_no hB (.inr (.inr (.inl ⟨by rw [hh]; exact congrArg some b48, by omega⟩)))]), Hold.ch H0⟩
            · have h1 : ¬ ((nums8 s).length = 0 ∨ 9 < (nums8 s).length ∨ ((nums8 s).head? = some 48 ∧ 1 < (nums8 s).length)) := (fun h => by rcases h with h | h | h <;> first | omega | (have := h.2; omega))
              refine sk (sq ?_)
              refine gen (fun ρ => ρ 0 = .string s ∧ ρ 2 = .int .i64 0 ∧ ρ 3 = .bool false ∧ True) ⟨z0, z2, z3, trivial⟩ ?_
              rintro ρ ⟨z0, z2, z3, -⟩
              refine rg (r (sa rfl) (re (sq (sq (rg (r (sa rfl) (re (bl ?_))))))))
              refine lp (α := Nat) (fun i ρ w' => ρ 0 = .string s ∧ ρ 6 = .int .i64 (decV ((nums8 s).take i)) ∧ ρ 7 = .int .i64 (i : Int) ∧ Hold w [] w' [] ∧ i ≤ s.size ∧ dgs ((nums8 s).take i)) (fun i => s.size - i) 0 ?_ ?_
              · exact ⟨z0, rfl, rfl, H0, ⟨by omega, by simp [dgs]⟩⟩
              clear H0
              rintro i ρ w501 ⟨y0, y6, y7, H1, hi, hd⟩
              refine sq (sq (rg (r (mv y7) (r (mv y0) (r (lns Tryd.underlying9 rfl) (r (bi rfl rfl rfl) (re ?_)))))))
              refine cp rfl (fun hlt => ?_) (fun hlt => ?_)
              · have hi' : i < (nums8 s).length := by omega
                have hv := decV_le hd (by simp; omega)
                have hb := ok _ (List.getElem_mem hi')
                obtain ⟨x, hx⟩ : ∃ x, x = (nums8 s)[i] := ⟨_, rfl⟩
                have hxm : x ∈ nums8 s := by rw [hx]; exact List.getElem_mem hi'
                rw [← hx] at hb
                refine sk (sq (bl (sq (sq (rg (r (mv y0) (r (mv y7) (r (Rn.cast (v' := .int .u8 x) (six (j := i) Tryd.underlying9 rfl rfl (by omega)) (congrArg (Value.int .u8) hx.symm)) (r (bi rfl rfl rfl) (r (mv rfl) ?_))))))))))
                refine sp 63 rfl (fun hlo => ?_) (fun hlo => ?_)
                · refine gn rfl rfl rfl (gn rfl rfl rfl (gn rfl rfl rfl (gn rfl rfl rfl (r (pk rfl rfl) (re (ct rfl (sq ?_)))))))
                  refine gen (fun ρ => ρ 0 = .string s ∧ ρ 6 = .int .i64 (decV ((nums8 s).take i)) ∧ ρ 7 = .int .i64 (i : Int) ∧ True) ⟨y0, y6, y7, trivial⟩ ?_
                  rintro ρ ⟨z0, z6, z7, -⟩
                  refine rg (r (sa rfl) (r (sa rfl) (re (rt ?_))))
                  exact fin2 (v := .int .i64 0) (v' := .bool false) Tryd.results104 rfl rfl ⟨(by rw [numL_no hB (.inr (.inr (.inr (fun g => by have := g x hxm; omega))))]), Hold.ch H1⟩
                · refine gy rfl rfl rfl (r (mv y0) (gy rfl rfl rfl (r (mv y7) (gy rfl rfl rfl (r (Rn.cast (v' := .int .u8 x) (six (j := i) Tryd.underlying9 rfl rfl (by omega)) (congrArg (Value.int .u8) hx.symm)) (gy rfl rfl rfl (r (bi rfl rfl rfl) (r (pk rfl rfl) (re ?_)))))))))
                  refine cp rfl (fun hhi => ?_) (fun hhi => ?_)
                  · refine sq ?_
                    refine gen (fun ρ => ρ 0 = .string s ∧ ρ 6 = .int .i64 (decV ((nums8 s).take i)) ∧ ρ 7 = .int .i64 (i : Int) ∧ True) ⟨y0, y6, y7, trivial⟩ ?_
                    rintro ρ ⟨z0, z6, z7, -⟩
                    refine rg (r (sa rfl) (r (sa rfl) (re (rt ?_))))
                    exact fin2 (v := .int .i64 0) (v' := .bool false) Tryd.results104 rfl rfl ⟨(by rw [numL_no hB (.inr (.inr (.inr (fun g => by have := g x hxm; omega))))]), Hold.ch H1⟩
                  · refine sk ?_
                    refine gen (fun ρ => ρ 0 = .string s ∧ ρ 6 = .int .i64 (decV ((nums8 s).take i)) ∧ ρ 7 = .int .i64 (i : Int) ∧ True) ⟨y0, y6, y7, trivial⟩ ?_
                    rintro ρ ⟨z0, z6, z7, -⟩
                    refine rg (r (mv z6) (r (ml (a := decV ((nums8 s).take i)) (b := 10) ((decV ((nums8 s).take i)) * 10) rfl rfl (by omega)) (r (mv z0) (r (mv z7) (r (Rn.cast (v' := .int .u8 x) (six (j := i) Tryd.underlying9 rfl rfl (by omega)) (congrArg (Value.int .u8) hx.symm)) (r (sbw (x - 48) rfl rfl (by rw [u8_in] <;> omega)) (r (cv (x - 48) Tryd.underlying5 Tryd.underlying2 rfl (IntWalk.i64_in _ (by omega))) (r (ad (a := (decV ((nums8 s).take i)) * 10) (b := x - 48) (((decV ((nums8 s).take i)) * 10) + (x - 48)) rfl rfl (by omega)) (r (sa rfl) (re (be (rg (r (mv z7) (r (ad (a := (i : Int)) (b := 1) ((i : Int) + 1) rfl rfl (by omega)) (r (sa rfl) (re ?_))))))))))))))))
                    exact ag (i + 1) ⟨z0, (congrArg (Value.int .i64) (by rw [decV_take hi', ← hx])), rfl, H1, ⟨by omega, by
  rw [List.take_succ_eq_append_getElem hi', ← hx]
  intro z hz
  rcases List.mem_append.1 hz with hz | hz
  · exact hd z hz
  · rw [List.mem_singleton.1 hz]; omega⟩⟩ (by first | omega | (dsimp only; omega))
              · have ei : i = (nums8 s).length := by omega
                rw [ei, List.take_length] at hd
                refine ex rfl (sq (rg (r (mv y6) (r (sa rfl) (r (sa rfl) (re (rt ?_)))))))
                exact fin2 (v := .int .i64 (decV ((nums8 s).take i))) (v' := .bool true) Tryd.results104 rfl rfl ⟨(by rw [numL_yes hB h1 hd, ei, List.take_length]), Hold.ch H1⟩
          · have h1 : ¬ ((nums8 s).length = 0 ∨ 9 < (nums8 s).length ∨ ((nums8 s).head? = some 48 ∧ 1 < (nums8 s).length)) := (fun h => by rcases h with h | h | h <;> first | omega | (rw [hh] at h; exact b48 (Option.some.inj h.1)))
            refine gn rfl rfl rfl (gn rfl rfl rfl (gn rfl rfl rfl (gy rfl rfl rfl (r (pk rfl rfl) (r (pk rfl rfl) (re (cf rfl (sk (sq ?_)))))))))
            refine gen (fun ρ => ρ 0 = .string s ∧ ρ 2 = .int .i64 0 ∧ ρ 3 = .bool false ∧ True) ⟨z0, z2, z3, trivial⟩ ?_
            rintro ρ ⟨z0, z2, z3, -⟩
            refine rg (r (sa rfl) (re (sq (sq (rg (r (sa rfl) (re (bl ?_))))))))
            refine lp (α := Nat) (fun i ρ w' => ρ 0 = .string s ∧ ρ 6 = .int .i64 (decV ((nums8 s).take i)) ∧ ρ 7 = .int .i64 (i : Int) ∧ Hold w [] w' [] ∧ i ≤ s.size ∧ dgs ((nums8 s).take i)) (fun i => s.size - i) 0 ?_ ?_
            · exact ⟨z0, rfl, rfl, H0, ⟨by omega, by simp [dgs]⟩⟩
            clear H0
            rintro i ρ w501 ⟨y0, y6, y7, H1, hi, hd⟩
            refine sq (sq (rg (r (mv y7) (r (mv y0) (r (lns Tryd.underlying9 rfl) (r (bi rfl rfl rfl) (re ?_)))))))
            refine cp rfl (fun hlt => ?_) (fun hlt => ?_)
            · have hi' : i < (nums8 s).length := by omega
              have hv := decV_le hd (by simp; omega)
              have hb := ok _ (List.getElem_mem hi')
              obtain ⟨x, hx⟩ : ∃ x, x = (nums8 s)[i] := ⟨_, rfl⟩
              have hxm : x ∈ nums8 s := by rw [hx]; exact List.getElem_mem hi'
              rw [← hx] at hb
              refine sk (sq (bl (sq (sq (rg (r (mv y0) (r (mv y7) (r (Rn.cast (v' := .int .u8 x) (six (j := i) Tryd.underlying9 rfl rfl (by omega)) (congrArg (Value.int .u8) hx.symm)) (r (bi rfl rfl rfl) (r (mv rfl) ?_))))))))))
              refine sp 63 rfl (fun hlo => ?_) (fun hlo => ?_)
              · refine gn rfl rfl rfl (gn rfl rfl rfl (gn rfl rfl rfl (gn rfl rfl rfl (r (pk rfl rfl) (re (ct rfl (sq ?_)))))))
                refine gen (fun ρ => ρ 0 = .string s ∧ ρ 6 = .int .i64 (decV ((nums8 s).take i)) ∧ ρ 7 = .int .i64 (i : Int) ∧ True) ⟨y0, y6, y7, trivial⟩ ?_
                rintro ρ ⟨z0, z6, z7, -⟩
                refine rg (r (sa rfl) (r (sa rfl) (re (rt ?_))))
                exact fin2 (v := .int .i64 0) (v' := .bool false) Tryd.results104 rfl rfl ⟨(by rw [numL_no hB (.inr (.inr (.inr (fun g => by have := g x hxm; omega))))]), Hold.ch H1⟩
              · refine gy rfl rfl rfl (r (mv y0) (gy rfl rfl rfl (r (mv y7) (gy rfl rfl rfl (r (Rn.cast (v' := .int .u8 x) (six (j := i) Tryd.underlying9 rfl rfl (by omega)) (congrArg (Value.int .u8) hx.symm)) (gy rfl rfl rfl (r (bi rfl rfl rfl) (r (pk rfl rfl) (re ?_)))))))))
                refine cp rfl (fun hhi => ?_) (fun hhi => ?_)
                · refine sq ?_
                  refine gen (fun ρ => ρ 0 = .string s ∧ ρ 6 = .int .i64 (decV ((nums8 s).take i)) ∧ ρ 7 = .int .i64 (i : Int) ∧ True) ⟨y0, y6, y7, trivial⟩ ?_
                  rintro ρ ⟨z0, z6, z7, -⟩
                  refine rg (r (sa rfl) (r (sa rfl) (re (rt ?_))))
                  exact fin2 (v := .int .i64 0) (v' := .bool false) Tryd.results104 rfl rfl ⟨(by rw [numL_no hB (.inr (.inr (.inr (fun g => by have := g x hxm; omega))))]), Hold.ch H1⟩
                · refine sk ?_
                  refine gen (fun ρ => ρ 0 = .string s ∧ ρ 6 = .int .i64 (decV ((nums8 s).take i)) ∧ ρ 7 = .int .i64 (i : Int) ∧ True) ⟨y0, y6, y7, trivial⟩ ?_
                  rintro ρ ⟨z0, z6, z7, -⟩
                  refine rg (r (mv z6) (r (ml (a := decV ((nums8 s).take i)) (b := 10) ((decV ((nums8 s).take i)) * 10) rfl rfl (by omega)) (r (mv z0) (r (mv z7) (r (Rn.cast (v' := .int .u8 x) (six (j := i) Tryd.underlying9 rfl rfl (by omega)) (congrArg (Value.int .u8) hx.symm)) (r (sbw (x - 48) rfl rfl (by rw [u8_in] <;> omega)) (r (cv (x - 48) Tryd.underlying5 Tryd.underlying2 rfl (IntWalk.i64_in _ (by omega))) (r (ad (a := (decV ((nums8 s).take i)) * 10) (b := x - 48) (((decV ((nums8 s).take i)) * 10) + (x - 48)) rfl rfl (by omega)) (r (sa rfl) (re (be (rg (r (mv z7) (r (ad (a := (i : Int)) (b := 1) ((i : Int) + 1) rfl rfl (by omega)) (r (sa rfl) (re ?_))))))))))))))))
                  exact ag (i + 1) ⟨z0, (congrArg (Value.int .i64) (by rw [decV_take hi', ← hx])), rfl, H1, ⟨by omega, by
  rw [List.take_succ_eq_append_getElem hi', ← hx]
  intro z hz
  rcases List.mem_append.1 hz with hz | hz
  · exact hd z hz
  · rw [List.mem_singleton.1 hz]; omega⟩⟩ (by first | omega | (dsimp only; omega))
            · have ei : i = (nums8 s).length := by omega
              rw [ei, List.take_length] at hd
              refine ex rfl (sq (rg (r (mv y6) (r (sa rfl) (r (sa rfl) (re (rt ?_)))))))
              exact fin2 (v := .int .i64 (decV ((nums8 s).take i))) (v' := .bool true) Tryd.results104 rfl rfl ⟨(by rw [numL_yes hB h1 hd, ei, List.take_length]), Hold.ch H1⟩
  · have hB : ¬ (1 < (nums8 s).length ∧ (nums8 s).head? = some 45) := (fun g => by omega)
    refine gn rfl rfl rfl (gn rfl rfl rfl (gn rfl rfl rfl (r (pk rfl rfl) (re (cf rfl (sk (sq (sq ?_))))))))
    refine gen (fun ρ => ρ 0 = .string s ∧ ρ 2 = .int .i64 0 ∧ ρ 3 = .bool false ∧ True) ⟨rfl, rfl, rfl, trivial⟩ ?_
    rintro ρ ⟨z0, z2, z3, -⟩
    refine rg (r (mv z0) (r (lns Tryd.underlying9 rfl) (r (bi rfl rfl rfl) (r (mv rfl) ?_))))
    refine sp 38 rfl (fun b0 => ?_) (fun b0 => ?_)
    · refine gn rfl rfl rfl (gn rfl rfl rfl (gn rfl rfl rfl (r (pk rfl rfl) (r (mv rfl) (gn rfl rfl rfl (gn rfl rfl rfl (gn rfl rfl rfl (gn rfl rfl rfl (gu rfl rfl rfl (gu rfl rfl rfl (gu rfl rfl rfl (gn rfl rfl rfl (r (pk rfl rfl) (re (ct rfl (sq ?_))))))))))))))))
      refine gen (fun ρ => ρ 0 = .string s ∧ ρ 2 = .int .i64 0 ∧ ρ 3 = .bool false ∧ True) ⟨z0, z2, z3, trivial⟩ ?_
      rintro ρ ⟨z0, z2, z3, -⟩
      refine rg (r (sa rfl) (r (sa rfl) (re (rt ?_))))
      exact fin2 (v := .int .i64 0) (v' := .bool false) Tryd.results104 rfl rfl ⟨(by rw [numL_no hB (.inl (by omega))]), Hold.ch H0⟩
    · refine gy rfl rfl rfl (r (mv z0) (gy rfl rfl rfl (r (lns Tryd.underlying9 rfl) (gy rfl rfl rfl (r (bi rfl rfl rfl) (r (pk rfl rfl) (r (mv rfl) ?_)))))))
      refine sp 43 rfl (fun b9 => ?_) (fun b9 => ?_)
      · refine gn rfl rfl rfl (gn rfl rfl rfl (gn rfl rfl rfl (gn rfl rfl rfl (gu rfl rfl rfl (gu rfl rfl rfl (gu rfl rfl rfl (gn rfl rfl rfl (r (pk rfl rfl) (re (ct rfl (sq ?_)))))))))))
        refine gen (fun ρ => ρ 0 = .string s ∧ ρ 2 = .int .i64 0 ∧ ρ 3 = .bool false ∧ True) ⟨z0, z2, z3, trivial⟩ ?_
        rintro ρ ⟨z0, z2, z3, -⟩
        refine rg (r (sa rfl) (r (sa rfl) (re (rt ?_))))
        exact fin2 (v := .int .i64 0) (v' := .bool false) Tryd.results104 rfl rfl ⟨(by rw [numL_no hB (.inr (.inl (by omega)))]), Hold.ch H0⟩
      · have hp : 0 < (nums8 s).length := by omega
        have hh := head0 hp
        refine gy rfl rfl rfl (r (mv z0) (gy rfl rfl rfl (r (six (j := 0) Tryd.underlying9 rfl rfl (by omega)) (gy rfl rfl rfl (r (bi rfl rfl rfl) (gy rfl rfl rfl (r (mv rfl) ?_)))))))
        refine sp 47 rfl (fun b48 => ?_) (fun b48 => ?_)
        · refine gy rfl rfl rfl (r (mv z0) (gy rfl rfl rfl (r (lns Tryd.underlying9 rfl) (gy rfl rfl rfl (r (bi rfl rfl rfl) (gy rfl rfl rfl (r (pk rfl rfl) (r (pk rfl rfl) (re ?_)))))))))
          refine cp rfl (fun b1 => ?_) (fun b1 => ?_)
          · refine sq ?_
            refine gen (fun ρ => ρ 0 = .string s ∧ ρ 2 = .int .i64 0 ∧ ρ 3 = .bool false ∧ True) ⟨z0, z2, z3, trivial⟩ ?_
            rintro ρ ⟨z0, z2, z3, -⟩
            refine rg (r (sa rfl) (r (sa rfl) (re (rt ?_))))
            exact fin2 (v := .int .i64 0) (v' := .bool false) Tryd.results104 rfl rfl ⟨(by rw [numL_no hB (.inr (.inr (.inl ⟨by rw [hh]; exact congrArg some b48, by omega⟩)))]), Hold.ch H0⟩
          · have h1 : ¬ ((nums8 s).length = 0 ∨ 9 < (nums8 s).length ∨ ((nums8 s).head? = some 48 ∧ 1 < (nums8 s).length)) := (fun h => by rcases h with h | h | h <;> first | omega | (have := h.2; omega))
            refine sk (sq ?_)
            refine gen (fun ρ => ρ 0 = .string s ∧ ρ 2 = .int .i64 0 ∧ ρ 3 = .bool false ∧ True) ⟨z0, z2, z3, trivial⟩ ?_
            rintro ρ ⟨z0, z2, z3, -⟩
            refine rg (r (sa rfl) (re (sq (sq (rg (r (sa rfl) (re (bl ?_))))))))
            refine lp (α := Nat) (fun i ρ w' => ρ 0 = .string s ∧ ρ 6 = .int .i64 (decV ((nums8 s).take i)) ∧ ρ 7 = .int .i64 (i : Int) ∧ Hold w [] w' [] ∧ i ≤ s.size ∧ dgs ((nums8 s).take i)) (fun i => s.size - i) 0 ?_ ?_
            · exact ⟨z0, rfl, rfl, H0, ⟨by omega, by simp [dgs]⟩⟩
            clear H0
            rintro i ρ w501 ⟨y0, y6, y7, H1, hi, hd⟩
            refine sq (sq (rg (r (mv y7) (r (mv y0) (r (lns Tryd.underlying9 rfl) (r (bi rfl rfl rfl) (re ?_)))))))
            refine cp rfl (fun hlt => ?_) (fun hlt => ?_)
            · have hi' : i < (nums8 s).length := by omega
              have hv := decV_le hd (by simp; omega)
              have hb := ok _ (List.getElem_mem hi')
              obtain ⟨x, hx⟩ : ∃ x, x = (nums8 s)[i] := ⟨_, rfl⟩
              have hxm : x ∈ nums8 s := by rw [hx]; exact List.getElem_mem hi'
              rw [← hx] at hb
              refine sk (sq (bl (sq (sq (rg (r (mv y0) (r (mv y7) (r (Rn.cast (v' := .int .u8 x) (six (j := i) Tryd.underlying9 rfl rfl (by omega)) (congrArg (Value.int .u8) hx.symm)) (r (bi rfl rfl rfl) (r (mv rfl) ?_))))))))))
              refine sp 63 rfl (fun hlo => ?_) (fun hlo => ?_)
              · refine gn rfl rfl rfl (gn rfl rfl rfl (gn rfl rfl rfl (gn rfl rfl rfl (r (pk rfl rfl) (re (ct rfl (sq ?_)))))))
                refine gen (fun ρ => ρ 0 = .string s ∧ ρ 6 = .int .i64 (decV ((nums8 s).take i)) ∧ ρ 7 = .int .i64 (i : Int) ∧ True) ⟨y0, y6, y7, trivial⟩ ?_
                rintro ρ ⟨z0, z6, z7, -⟩
                refine rg (r (sa rfl) (r (sa rfl) (re (rt ?_))))
                exact fin2 (v := .int .i64 0) (v' := .bool false) Tryd.results104 rfl rfl ⟨(by rw [numL_no hB (.inr (.inr (.inr (fun g => by have := g x hxm; omega))))]), Hold.ch H1⟩
              · refine gy rfl rfl rfl (r (mv y0) (gy rfl rfl rfl (r (mv y7) (gy rfl rfl rfl (r (Rn.cast (v' := .int .u8 x) (six (j := i) Tryd.underlying9 rfl rfl (by omega)) (congrArg (Value.int .u8) hx.symm)) (gy rfl rfl rfl (r (bi rfl rfl rfl) (r (pk rfl rfl) (re ?_)))))))))
                refine cp rfl (fun hhi => ?_) (fun hhi => ?_)
                · refine sq ?_
                  refine gen (fun ρ => ρ 0 = .string s ∧ ρ 6 = .int .i64 (decV ((nums8 s).take i)) ∧ ρ 7 = .int .i64 (i : Int) ∧ True) ⟨y0, y6, y7, trivial⟩ ?_
                  rintro ρ ⟨z0, z6, z7, -⟩
                  refine rg (r (sa rfl) (r (sa rfl) (re (rt ?_))))
                  exact fin2 (v := .int .i64 0) (v' := .bool false) Tryd.results104 rfl rfl ⟨(by rw [numL_no hB (.inr (.inr (.inr (fun g => by have := g x hxm; omega))))]), Hold.ch H1⟩
                · refine sk ?_
                  refine gen (fun ρ => ρ 0 = .string s ∧ ρ 6 = .int .i64 (decV ((nums8 s).take i)) ∧ ρ 7 = .int .i64 (i : Int) ∧ True) ⟨y0, y6, y7, trivial⟩ ?_
                  rintro ρ ⟨z0, z6, z7, -⟩
                  refine rg (r (mv z6) (r (ml (a := decV ((nums8 s).take i)) (b := 10) ((decV ((nums8 s).take i)) * 10) rfl rfl (by omega)) (r (mv z0) (r (mv z7) (r (Rn.cast (v' := .int .u8 x) (six (j := i) Tryd.underlying9 rfl rfl (by omega)) (congrArg (Value.int .u8) hx.symm)) (r (sbw (x - 48) rfl rfl (by rw [u8_in] <;> omega)) (r (cv (x - 48) Tryd.underlying5 Tryd.underlying2 rfl (IntWalk.i64_in _ (by omega))) (r (ad (a := (decV ((nums8 s).take i)) * 10) (b := x - 48) (((decV ((nums8 s).take i)) * 10) + (x - 48)) rfl rfl (by omega)) (r (sa rfl) (re (be (rg (r (mv z7) (r (ad (a := (i : Int)) (b := 1) ((i : Int) + 1) rfl rfl (by omega)) (r (sa rfl) (re ?_))))))))))))))))
                  exact ag (i + 1) ⟨z0, (congrArg (Value.int .i64) (by rw [decV_take hi', ← hx])), rfl, H1, ⟨by omega, by
  rw [List.take_succ_eq_append_getElem hi', ← hx]
  intro z hz
  rcases List.mem_append.1 hz with hz | hz
  · exact hd z hz
  · rw [List.mem_singleton.1 hz]; omega⟩⟩ (by first | omega | (dsimp only; omega))
            · have ei : i = (nums8 s).length := by omega
              rw [ei, List.take_length] at hd
              refine ex rfl (sq (rg (r (mv y6) (r (sa rfl) (r (sa rfl) (re (rt ?_)))))))
              exact fin2 (v := .int .i64 (decV ((nums8 s).take i))) (v' := .bool true) Tryd.results104 rfl rfl ⟨(by rw [numL_yes hB h1 hd, ei, List.take_length]), Hold.ch H1⟩
        · have h1 : ¬ ((nums8 s).length = 0 ∨ 9 < (nums8 s).length ∨ ((nums8 s).head? = some 48 ∧ 1 < (nums8 s).length)) := (fun h => by rcases h with h | h | h <;> first | omega | (rw [hh] at h; exact b48 (Option.some.inj h.1)))
          refine gn rfl rfl rfl (gn rfl rfl rfl (gn rfl rfl rfl (gy rfl rfl rfl (r (pk rfl rfl) (r (pk rfl rfl) (re (cf rfl (sk (sq ?_)))))))))
          refine gen (fun ρ => ρ 0 = .string s ∧ ρ 2 = .int .i64 0 ∧ ρ 3 = .bool false ∧ True) ⟨z0, z2, z3, trivial⟩ ?_
          rintro ρ ⟨z0, z2, z3, -⟩
          refine rg (r (sa rfl) (re (sq (sq (rg (r (sa rfl) (re (bl ?_))))))))
          refine lp (α := Nat) (fun i ρ w' => ρ 0 = .string s ∧ ρ 6 = .int .i64 (decV ((nums8 s).take i)) ∧ ρ 7 = .int .i64 (i : Int) ∧ Hold w [] w' [] ∧ i ≤ s.size ∧ dgs ((nums8 s).take i)) (fun i => s.size - i) 0 ?_ ?_
          · exact ⟨z0, rfl, rfl, H0, ⟨by omega, by simp [dgs]⟩⟩
          clear H0
          rintro i ρ w501 ⟨y0, y6, y7, H1, hi, hd⟩
          refine sq (sq (rg (r (mv y7) (r (mv y0) (r (lns Tryd.underlying9 rfl) (r (bi rfl rfl rfl) (re ?_)))))))
          refine cp rfl (fun hlt => ?_) (fun hlt => ?_)
          · have hi' : i < (nums8 s).length := by omega
            have hv := decV_le hd (by simp; omega)
            have hb := ok _ (List.getElem_mem hi')
            obtain ⟨x, hx⟩ : ∃ x, x = (nums8 s)[i] := ⟨_, rfl⟩
            have hxm : x ∈ nums8 s := by rw [hx]; exact List.getElem_mem hi'
            rw [← hx] at hb
            refine sk (sq (bl (sq (sq (rg (r (mv y0) (r (mv y7) (r (Rn.cast (v' := .int .u8 x) (six (j := i) Tryd.underlying9 rfl rfl (by omega)) (congrArg (Value.int .u8) hx.symm)) (r (bi rfl rfl rfl) (r (mv rfl) ?_))))))))))
            refine sp 63 rfl (fun hlo => ?_) (fun hlo => ?_)
            · refine gn rfl rfl rfl (gn rfl rfl rfl (gn rfl rfl rfl (gn rfl rfl rfl (r (pk rfl rfl) (re (ct rfl (sq ?_)))))))
              refine gen (fun ρ => ρ 0 = .string s ∧ ρ 6 = .int .i64 (decV ((nums8 s).take i)) ∧ ρ 7 = .int .i64 (i : Int) ∧ True) ⟨y0, y6, y7, trivial⟩ ?_
              rintro ρ ⟨z0, z6, z7, -⟩
              refine rg (r (sa rfl) (r (sa rfl) (re (rt ?_))))
              exact fin2 (v := .int .i64 0) (v' := .bool false) Tryd.results104 rfl rfl ⟨(by rw [numL_no hB (.inr (.inr (.inr (fun g => by have := g x hxm; omega))))]), Hold.ch H1⟩
            · refine gy rfl rfl rfl (r (mv y0) (gy rfl rfl rfl (r (mv y7) (gy rfl rfl rfl (r (Rn.cast (v' := .int .u8 x) (six (j := i) Tryd.underlying9 rfl rfl (by omega)) (congrArg (Value.int .u8) hx.symm)) (gy rfl rfl rfl (r (bi rfl rfl rfl) (r (pk rfl rfl) (re ?_)))))))))
              refine cp rfl (fun hhi => ?_) (fun hhi => ?_)
              · refine sq ?_
                refine gen (fun ρ => ρ 0 = .string s ∧ ρ 6 = .int .i64 (decV ((nums8 s).take i)) ∧ ρ 7 = .int .i64 (i : Int) ∧ True) ⟨y0, y6, y7, trivial⟩ ?_
                rintro ρ ⟨z0, z6, z7, -⟩
                refine rg (r (sa rfl) (r (sa rfl) (re (rt ?_))))
                exact fin2 (v := .int .i64 0) (v' := .bool false) Tryd.results104 rfl rfl ⟨(by rw [numL_no hB (.inr (.inr (.inr (fun g => by have := g x hxm; omega))))]), Hold.ch H1⟩
              · refine sk ?_
                refine gen (fun ρ => ρ 0 = .string s ∧ ρ 6 = .int .i64 (decV ((nums8 s).take i)) ∧ ρ 7 = .int .i64 (i : Int) ∧ True) ⟨y0, y6, y7, trivial⟩ ?_
                rintro ρ ⟨z0, z6, z7, -⟩
                refine rg (r (mv z6) (r (ml (a := decV ((nums8 s).take i)) (b := 10) ((decV ((nums8 s).take i)) * 10) rfl rfl (by omega)) (r (mv z0) (r (mv z7) (r (Rn.cast (v' := .int .u8 x) (six (j := i) Tryd.underlying9 rfl rfl (by omega)) (congrArg (Value.int .u8) hx.symm)) (r (sbw (x - 48) rfl rfl (by rw [u8_in] <;> omega)) (r (cv (x - 48) Tryd.underlying5 Tryd.underlying2 rfl (IntWalk.i64_in _ (by omega))) (r (ad (a := (decV ((nums8 s).take i)) * 10) (b := x - 48) (((decV ((nums8 s).take i)) * 10) + (x - 48)) rfl rfl (by omega)) (r (sa rfl) (re (be (rg (r (mv z7) (r (ad (a := (i : Int)) (b := 1) ((i : Int) + 1) rfl rfl (by omega)) (r (sa rfl) (re ?_))))))))))))))))
                exact ag (i + 1) ⟨z0, (congrArg (Value.int .i64) (by rw [decV_take hi', ← hx])), rfl, H1, ⟨by omega, by
  rw [List.take_succ_eq_append_getElem hi', ← hx]
  intro z hz
  rcases List.mem_append.1 hz with hz | hz
  · exact hd z hz
  · rw [List.mem_singleton.1 hz]; omega⟩⟩ (by first | omega | (dsimp only; omega))
          · have ei : i = (nums8 s).length := by omega
            rw [ei, List.take_length] at hd
            refine ex rfl (sq (rg (r (mv y6) (r (sa rfl) (r (sa rfl) (re (rt ?_)))))))
            exact fin2 (v := .int .i64 (decV ((nums8 s).take i))) (v' := .bool true) Tryd.results104 rfl rfl ⟨(by rw [numL_yes hB h1 hd, ei, List.take_length]), Hold.ch H1⟩
theorem l6Number_m (m : Nat) : ∀ (w : World) (s : ByteArray), s.size = m → Ret Tryd.prog 104 #[.string s] w (fun r w' => r = .tuple #[.int .i64 (numL (nums8 s)).1, .bool (numL (nums8 s)).2] ∧ Ch [] w w') := by
  induction m using Nat.strongRecOn with
  | _ m ih => exact fun w s hm => l6Number_n m (fun k w s hk hs => ih k hk w s hs) w s hm
theorem l6Number {w : World} {s : ByteArray} : Ret Tryd.prog 104 #[.string s] w (fun r w' => r = .tuple #[.int .i64 (numL (nums8 s)).1, .bool (numL (nums8 s)).2] ∧ Ch [] w w') := l6Number_m _ w s rfl
end Go.Proofs.YtgpcanjmgdmdhaaDoor

namespace Go.Proofs.YtgpcanjmgdmdhaaDoor
open Go Go.Eng
set_option maxRecDepth 100000
set_option maxHeartbeats 4000000
set_option linter.unusedVariables false
set_option linter.unusedSimpArgs false
def numV (s : ByteArray) : Int := (numL (nums8 s)).1
def numOk (s : ByteArray) : Bool := (numL (nums8 s)).2
theorem numV_bd (s : ByteArray) : -1000000000 ≤ numV s ∧ numV s ≤ 1000000000 := numL_bd _
theorem l6Number_v {w : World} {s : ByteArray} : Ret Tryd.prog 104 #[.string s] w (fun r w' => r = .tuple #[.int .i64 (numV s), .bool (numOk s)] ∧ Ch [] w w') := l6Number
/-- Are all of them numbers. -/
def allOk (fs : List ByteArray) : Bool := fs.all numOk
theorem allOk_no {fs : List ByteArray} {i : Nat} (hi : i < fs.length) (h : numOk fs[i] = false) : allOk fs = false := by
  unfold allOk
  rw [List.all_eq_false]
  exact ⟨fs[i], List.getElem_mem hi, by simp [h]⟩
theorem allOk_yes {fs : List ByteArray} (h : ∀ (j : Nat) (hj : j < fs.length), j < fs.length → numOk fs[j] = true) : allOk fs = true := by
  unfold allOk
  rw [List.all_eq_true]
  intro f hf
  obtain ⟨j, hj, rfl⟩ := List.getElem_of_mem hf
  exact h j hj hj
def vals (fs : List ByteArray) : List Int := fs.map numV
def numsOk (fs : List ByteArray) : Bool := allOk fs && decide (fs.length ≤ 400)
theorem l6Nums {w : World} {F : List Nat} {v : Value} {fs : List ByteArray} (hx : kStr.R w F v fs) (lx : fs.length ≤ 1000000) : Ret Tryd.prog 76 #[v] w (fun r w' => ∃ u xs, r = .tuple #[u, .bool (numsOk fs)] ∧ (numsOk fs = true → xs = vals fs) ∧ Hold w [] w' [rR i64 2 u xs]) := by
  refine enter Tryd.func76 rfl Tryd.ntmps76 (by rfl) (by rfl) ?_
  have H0 : Hold w [] w [] := Hold.start w
  refine sq (rg (r (sa rfl) (r (sa rfl) (re (sq (rg (ef (xbs0 (dk := i64) Tryd.underlying23 ti2) ?_)))))))
  rintro v1 w1 N1
  have H1 : Hold w [] w1 [rR i64 2 v1 ([])] := Hold.newr H0 N1
  clear H0
  refine r (sa rfl) (re (sq (sq (rg (r (sa rfl) (re (bl ?_)))))))
  refine lp (α := Nat × Value) (fun (i, u) ρ w' => ρ 0 = v ∧ ρ 4 = u ∧ ρ 5 = .int .i64 (i : Int) ∧ Hold w [] w' [rR i64 2 u (vals (fs.take i))] ∧ i ≤ fs.length ∧ ∀ (j : Nat) (hj : j < fs.length), j < i → numOk fs[j] = true) (fun (i, u) => fs.length - i) (0, v1) ?_ ?_
  · exact ⟨rfl, rfl, rfl, H1, ⟨by omega, fun j _ h => absurd h (by omega)⟩⟩
  clear H1
  rintro ⟨i, u⟩ ρ w502 ⟨y0, y4, y5, H2, hi, hg⟩
  refine sq (sq (rg (r (mv y5) (r (mv y0) (r (ln Tryd.underlying54 rfl ((hx.t (Hold.ch H2)))) (r (bi rfl rfl rfl) (re ?_)))))))
  refine cp rfl (fun h => ?_) (fun h => ?_)
  · have hi' : i < fs.length := by omega
    refine sk (sq (bl (sq (rg (r (mv y0) (r (mv y5) ?_))))))
    obtain ⟨c18_2, ad18_2, k18_2, e18_2, p18_2⟩ := Kd.R.place hx i (by omega)
    refine r (ix (j := i) Tryd.underlying54 ti9 e18_2 rfl (by omega)) (r (ld Tryd.underlying9 rfl rfl (Ch.cell (Hold.ch H2) p18_2.cell)) (cl go104 (l6Number_v) (ac rfl an) ?_))
    rintro r wr ⟨rfl, cr⟩
    have H3 : Hold w [] wr [rR i64 2 u (vals (fs.take i))] := Hold.t H2 cr
    clear H2
    clear cr
    refine r (mv rfl) (r (xt rfl rfl) (r (xt rfl rfl) (r (sa rfl) (r (sa rfl) (re (sq (sq ?_)))))))
    refine gen (fun ρ => ρ 0 = v ∧ ρ 4 = u ∧ ρ 5 = .int .i64 (i : Int) ∧ ρ 6 = .int .i64 (numV fs[i]) ∧ ρ 7 = .bool (numOk fs[i]) ∧ True) ⟨y0, y4, y5, rfl, rfl, trivial⟩ ?_
    rintro ρ ⟨z0, z4, z5, z6, z7, -⟩
    refine rg (r (mv z7) (r (nt rfl) (re ?_)))
    refine cd rfl (fun h1 => ?_) (fun h1 => ?_)
    · refine sq (rg (r (mv z4) (r (sa rfl) (r (sa rfl) (re (rt ?_))))))
      exact fin2 (v := u) (v' := .bool false) Tryd.results76 rfl rfl ⟨_, _, (by rw [numsOk, allOk_no hi' (by simpa using h1)]; rfl), (fun g => by rw [numsOk, allOk_no hi' (by simpa using h1)] at g; cases g), H3⟩
    · have h1' : numOk fs[i] = true := by simpa using h1
      have hv : vals (fs.take (i + 1)) = vals (fs.take i) ++ [numV fs[i]] := by unfold vals; rw [List.take_succ_eq_append_getElem hi', List.map_append]; rfl
      refine sk (rg (r (mv z4) (r (mv z6) (ef (xbs1 (cs := [.int .i64 (numV fs[i])]) Tryd.underlying23 ti2 rfl rfl rfl (cel1 rfl) rfl) ?_))))
      rintro _ w4 ⟨g28, e4, rfl, -, b4, c4⟩
      have H4 : Hold w [] w4 [rR i64 2 u (vals (fs.take i)), rB g28 2 ([.int .i64 (numV fs[i])])] := Hold.newB H3 e4 b4 c4
      clear H3
      clear e4 b4 c4
      have b6 : B w4 g28 2 ([.int .i64 (numV fs[i])]) := Hold.blk H4 1 rfl
      obtain ⟨F7, P7, n7, s7, K7⟩ := Hold.pick H4 0 rfl
      replace P7 : Kd.W i64 2 w4 F7 u (vals (fs.take i)) := P7
      refine ef (xapb (ys := [numV fs[i]]) Tryd.underlying23 ti2 rfl rfl rfl P7 b6 (els_one (R := Kd.O i64 _) (show Kd.O i64 _ [] (numV fs[i]) _ from ⟨rfl, rfl⟩)) (nodup_nil n7) (by simp [vals]; omega)) ?_
      rintro v29_5 w5 ⟨F5, A5⟩
      have H5 : Hold w [] w5 [rR i64 2 v29_5 ((vals (fs.take i)) ++ [numV fs[i]]), rB g28 2 ([.int .i64 (numV fs[i])])] := Hold.apd K7 P7 A5 rfl
      clear H4
      clear A5 K7 P7 n7 s7
      refine r (sa rfl) (re (be (rg (r (mv z5) (r (ad (a := (i : Int)) (b := 1) ((i : Int) + 1) rfl rfl (by omega)) (r (sa rfl) (re ?_)))))))
      have H6 : Hold w [] w5 [rR i64 2 v29_5 ((vals (fs.take i)) ++ [numV fs[i]])] := (show Hold w [] w5 ([rR i64 2 v29_5 ((vals (fs.take i)) ++ [numV fs[i]])] ++ [rB g28 2 ([.int .i64 (numV fs[i])])]) from Hold.re H5 [0, 1] (by kernel_rfl) (by rfl)).drop
      clear H5
      exact ag (i + 1, v29_5) ⟨z0, rfl, rfl, (by rw [hv]; exact H6), ⟨by omega, fun j hj hlt => by
  by_cases ej : j = i
  · subst ej; exact h1'
  · exact hg j hj (by omega)⟩⟩ (by first | omega | (dsimp only; omega))
  · have hall := allOk_yes (fun j hj _ => hg j hj (by omega))
    have ei : i = fs.length := by omega
    rw [ei, List.take_length] at H2
    refine ex rfl (sq (rg (r (mv y4) (r (mv y0) (r (ln Tryd.underlying54 rfl ((hx.t (Hold.ch H2)))) (r (bi rfl rfl rfl) (r (sa rfl) (r (sa rfl) (re (rt ?_))))))))))
    exact fin2 (v := u) (v' := .bool (decide ((fs.length : Int) ≤ 400))) Tryd.results76 rfl rfl ⟨_, _, (by rw [show numsOk fs = decide ((fs.length : Int) ≤ 400) by rw [numsOk, hall, Bool.true_and]; exact decide_eq_decide.2 (by omega)]), fun _ => rfl, H2⟩
theorem l6Between {w : World} {v lo hi : Int} : Ret Tryd.prog 77 #[.int .i64 v, .int .i64 lo, .int .i64 hi] w (fun r w' => r = .bool (decide (lo ≤ v ∧ v ≤ hi)) ∧ Ch [] w w') := by
  refine enter Tryd.func77 rfl Tryd.ntmps77 (by rfl) (by rfl) ?_
  have H0 : Hold w [] w [] := Hold.start w
  refine sq (rg (r (sa rfl) (re (sq (rg (r (mv rfl) (r (mv rfl) (r (bi rfl rfl rfl) (r (mv rfl) ?_)))))))))
  refine sp 10 rfl (fun h => ?_) (fun h => ?_)
  · refine gy rfl rfl rfl (r (mv rfl) (gy rfl rfl rfl (r (mv rfl) (gy rfl rfl rfl (r (bi rfl rfl rfl) (r (pk rfl rfl) (r (sa rfl) (re (rt ?_)))))))))
    exact fin1 (v := .bool (decide (v ≤ hi))) Tryd.results77 rfl ⟨congrArg Value.bool (decide_eq_decide.2 (by omega)), Hold.ch H0⟩
  · refine gn rfl rfl rfl (gn rfl rfl rfl (gn rfl rfl rfl (r (pk rfl rfl) (r (sa rfl) (re (rt ?_))))))
    exact fin1 (v := .bool false) Tryd.results77 rfl ⟨congrArg Value.bool (decide_eq_false (by omega)).symm, Hold.ch H0⟩
def letL (n first : Int) : List Int := (List.range n.toNat).map (fun i : Nat => 97 + ((i : Int) + first) % 26)
def letN (m : Nat) (first : Int) : List Int := (List.range m).map (fun i : Nat => 97 + ((i : Int) + first) % 26)
theorem letN_succ (m : Nat) (first : Int) : letN (m + 1) first = letN m first ++ [97 + ((m : Int) + first) % 26] := by simp [letN, List.range_succ]
theorem letN_len (m : Nat) (first : Int) : (letN m first).length = m := by simp [letN]
theorem l6Letters {w : World} {n first : Int} (hn : 0 ≤ n ∧ n ≤ 2000) (hf : 0 ≤ first ∧ first ≤ 25) : Ret Tryd.prog 103 #[.int .i64 n, .int .i64 first] w (fun r w' => r = .string (mkS (letL n first)) ∧ Ch [] w w') := by
  obtain ⟨m, rfl⟩ : ∃ m : Nat, n = (m : Int) := ⟨n.toNat, by omega⟩
  refine enter Tryd.func103 rfl Tryd.ntmps103 (by rfl) (by rfl) ?_
  have H0 : Hold w [] w [] := Hold.start w
  refine sq (rg (r (sa rfl) (re (sq (rg (ef (xbs0 (dk := u8) Tryd.underlying22 ti5) ?_))))))
  rintro v1 w1 N1
  have H1 : Hold w [] w1 [rR u8 5 v1 ([])] := Hold.newr H0 N1
  clear H0
  refine r (sa rfl) (re (sq (sq (rg (r (sa rfl) (re (bl ?_)))))))
  refine lp (α := Nat × Value) (fun (i, u) ρ w' => ρ 0 = .int .i64 (m : Int) ∧ ρ 1 = .int .i64 first ∧ ρ 5 = u ∧ ρ 6 = .int .i64 (i : Int) ∧ Hold w [] w' [rR u8 5 u (letN i first)] ∧ i ≤ m) (fun (i, u) => m - i) (0, v1) ?_ ?_
  · exact ⟨rfl, rfl, rfl, rfl, H1, by omega⟩
  clear H1
  rintro ⟨i, u⟩ ρ w502 ⟨y0, y1, y5, y6, H2, hi⟩
  refine sq (sq (rg (r (mv y6) (r (mv y0) (r (bi rfl rfl rfl) (re ?_))))))
  refine cp rfl (fun h => ?_) (fun h => ?_)
  · have hr : ((i : Int) + first).tmod 26 = ((i : Int) + first) % 26 := Int.tmod_eq_emod_of_nonneg (by omega)
    refine sk (sq (bl (rg (r (mv y5) (r (mv y6) (r (mv y1) (r (ad (a := (i : Int)) (b := first) ((i : Int) + first) rfl rfl (by omega)) (r (rm (a := (i : Int) + first) (b := 26) (((i : Int) + first) % 26) rfl rfl ⟨by omega, hr⟩) (r (ad (a := 97) (b := ((i : Int) + first) % 26) (97 + (((i : Int) + first) % 26)) rfl rfl (by omega)) (r (cv (97 + ((i : Int) + first) % 26) Tryd.underlying2 Tryd.underlying5 rfl (by rw [u8_in] <;> omega)) (ef (xbs1 (cs := [.int .u8 (97 + ((i : Int) + first) % 26)]) Tryd.underlying22 ti5 rfl rfl rfl (cel1 rfl) rfl) ?_)))))))))))
    rintro _ w2 ⟨g20, e2, rfl, -, b2, c2⟩
    have H3 : Hold w [] w2 [rR u8 5 u (letN i first), rB g20 5 ([.int .u8 (97 + ((i : Int) + first) % 26)])] := Hold.newB H2 e2 b2 c2
    clear H2
    clear e2 b2 c2
    have b4 : B w2 g20 5 ([.int .u8 (97 + ((i : Int) + first) % 26)]) := Hold.blk H3 1 rfl
    obtain ⟨F5, P5, n5, s5, K5⟩ := Hold.pick H3 0 rfl
    replace P5 : Kd.W u8 5 w2 F5 u (letN i first) := P5
    refine ef (xapb (ys := [97 + ((i : Int) + first) % 26]) Tryd.underlying22 ti5 rfl rfl rfl P5 b4 (els_one (R := Kd.O u8 _) (show Kd.O u8 _ [] (97 + ((i : Int) + first) % 26) _ from ⟨rfl, rfl⟩)) (nodup_nil n5) (by rw [letN_len]; simp; omega)) ?_
    rintro v21_3 w3 ⟨F3, A3⟩
    have H4 : Hold w [] w3 [rR u8 5 v21_3 ((letN i first) ++ [97 + ((i : Int) + first) % 26]), rB g20 5 ([.int .u8 (97 + ((i : Int) + first) % 26)])] := Hold.apd K5 P5 A3 rfl
    clear H3
    clear A3 K5 P5 n5 s5
    refine r (sa rfl) (re (be ?_))
    refine gen (fun ρ => ρ 0 = .int .i64 (m : Int) ∧ ρ 1 = .int .i64 first ∧ ρ 5 = v21_3 ∧ ρ 6 = .int .i64 (i : Int) ∧ True) ⟨y0, y1, rfl, y6, trivial⟩ ?_
    rintro ρ ⟨z0, z1, z5, z6, -⟩
    refine rg (r (mv z6) (r (ad (a := (i : Int)) (b := 1) ((i : Int) + 1) rfl rfl (by omega)) (r (sa rfl) (re ?_))))
    have H5 : Hold w [] w3 [rR u8 5 v21_3 ((letN i first) ++ [97 + ((i : Int) + first) % 26])] := (show Hold w [] w3 ([rR u8 5 v21_3 ((letN i first) ++ [97 + ((i : Int) + first) % 26])] ++ [rB g20 5 ([.int .u8 (97 + ((i : Int) + first) % 26)])]) from Hold.re H4 [0, 1] (by kernel_rfl) (by rfl)).drop
    clear H4
    exact ag (i + 1, v21_3) ⟨z0, z1, z5, rfl, (by rw [letN_succ]; exact H5), by omega⟩ (by first | omega | (dsimp only; omega))
  · have ei : i = m := by omega
    obtain ⟨_, R2⟩ : ∃ F, Kd.R u8 w502 F u (letN i first) := Hold.row H2 0 rfl
    refine ex rfl (sq (rg (r (mv y5) (r (cvbs Tryd.underlying22 Tryd.underlying5 Tryd.underlying9 R2 rfl) (r (sa rfl) (re (rt ?_)))))))
    exact fin1 (v := .string (mkS (letN i first))) Tryd.results103 rfl ⟨congrArg Value.string (by rw [ei]; rfl), Hold.ch H2⟩
theorem TrimPrefix_ {w : World} {s : ByteArray} : Ret Tryd.prog 142 #[.string s, .string (⟨#[45]⟩ : ByteArray)] w (fun r w' => ∃ dg : ByteArray, r = .string dg ∧ nums8 dg = trimL (nums8 s) ∧ Ch [] w w') :=
  Ret.of (Tryd.strings_TrimPrefix s _ w) fun e w' ⟨he, hw⟩ => ⟨_, he, _, rfl, trim_nums s, by subst hw; exact Ch.refl _ _⟩
theorem ParseInt_ {w : World} {s : ByteArray} (hs : s.size ≤ 1000000) (h : (numI (nums8 s)).2 = true) : Ret Tryd.prog 143 #[.string s, .int .i64 10, .int .i64 64] w (fun r w' => r = .tuple #[.int .i64 (numI (nums8 s)).1, .nilIface] ∧ Ch [] w w') :=
  Ret.of (Tryd.strconv_ParseInt_10_at64_ok s (by omega) _ (parseInt_num h) w) fun e w' ⟨he, hw⟩ => ⟨_, he, rfl, by
    rcases hw with rfl | ⟨t, rfl⟩
    · exact Ch.refl _ _
    · exact ch_below (Lib.bytesWorld_below _ _ _)⟩
theorem numOk_no {s : ByteArray} (h : (trimL (nums8 s)).length = 0 ∨ 9 < (trimL (nums8 s)).length ∨ ((trimL (nums8 s)).head? = some 48 ∧ nums8 s ≠ [48]) ∨ ¬ dgs (trimL (nums8 s))) : numOk s = false := by
  have e := (numI_eq (nums8 s)).1
  unfold numOk; rw [e, numI]
  by_cases h1 : (trimL (nums8 s)).length = 0 ∨ 9 < (trimL (nums8 s)).length ∨ ((trimL (nums8 s)).head? = some 48 ∧ nums8 s ≠ [48])
  · rw [if_pos h1]
  · rw [if_neg h1, if_neg]
    rcases h with h | h | h | h
    · exact absurd (.inl h) h1
    · exact absurd (.inr (.inl h)) h1
    · exact absurd (.inr (.inr h)) h1
    · exact h
theorem numOk_yes {s : ByteArray} (h1 : ¬ ((trimL (nums8 s)).length = 0 ∨ 9 < (trimL (nums8 s)).length ∨ ((trimL (nums8 s)).head? = some 48 ∧ nums8 s ≠ [48]))) (h : dgs (trimL (nums8 s))) : numOk s = true ∧ (numI (nums8 s)).2 = true ∧ numV s = (numI (nums8 s)).1 := by
  have e := numI_eq (nums8 s)
  have hb : (numI (nums8 s)).2 = true := by rw [numI, if_neg h1, if_pos h]
  exact ⟨e.1.trans hb, hb, e.2 hb⟩
theorem ne48 {s : ByteArray} (h : ¬ s = (⟨#[48]⟩ : ByteArray)) : nums8 s ≠ [48] := fun e => h (by rw [← mkS_nums8 s, e]; rfl)
theorem trim_size {s dg : ByteArray} (h : nums8 dg = trimL (nums8 s)) (h9 : dg.size ≤ 9) : s.size ≤ 10 := by
  have e := congrArg List.length h
  rw [nums8_len] at e
  have hl := nums8_len s
  unfold trimL at e; split at e
  · rw [List.length_drop] at e; omega
  · omega
theorem number0 {w : World} {F : List Nat} {s : ByteArray} {bv : Value} {bs : List Int} (hx : i64.R w F bv bs) (hb : bs.length = 0) : Ret Tryd.prog 126 #[.string s, bv] w (fun r w' => r = .tuple #[.int .i64 (if numOk s then numV s else 0), .bool (numOk s)] ∧ Ch [] w w') := by
  refine enter Tryd.func126 rfl Tryd.ntmps126 (by rfl) (by rfl) ?_
  have H0 : Hold w [] w [] := Hold.start w
  refine sq (rg (r (sa rfl) (r (sa rfl) (re (sq (rg (r (mv rfl) (cl go142 (TrimPrefix_) (ac rfl (ac rfl an)) ?_))))))))
  rintro r wt ⟨dg, rfl, ht, ct⟩
  have H1 : Hold w [] wt [] := Hold.t H0 ct
  clear H0
  clear ct
  refine r (sa rfl) (re (sq (sq (rg (r (mv rfl) (r (lns Tryd.underlying9 rfl) (r (bi rfl rfl rfl) (r (mv rfl) ?_))))))))
  have hl := nums8_len dg
  have okd := nums8_ok dg
  refine sp 15 rfl (fun b0 => ?_) (fun b0 => ?_)
  · have hno : numOk s = false := numOk_no (by rw [← ht]; exact .inl (by omega))
    refine gn rfl rfl rfl (gn rfl rfl rfl (gn rfl rfl rfl (r (pk rfl rfl) (r (mv rfl) (gn rfl rfl rfl (gn rfl rfl rfl (gn rfl rfl rfl (gn rfl rfl rfl (gu rfl rfl rfl (gu rfl rfl rfl (gn rfl rfl rfl (r (pk rfl rfl) (re (ct rfl (sq ?_)))))))))))))))
    refine gen (fun ρ => ρ 0 = .string s ∧ ρ 1 = bv ∧ ρ 4 = .int .i64 0 ∧ ρ 5 = .bool false ∧ ρ 6 = .string dg ∧ True) ⟨rfl, rfl, rfl, rfl, rfl, trivial⟩ ?_
    rintro ρ ⟨z0, z1, z4, z5, z6, -⟩
    refine rg (r (sa rfl) (r (sa rfl) (re (rt ?_))))
    exact fin2 (v := .int .i64 0) (v' := .bool false) Tryd.results126 rfl rfl ⟨by simp [hno], Hold.ch H1⟩
  · refine gy rfl rfl rfl (r (mv rfl) (gy rfl rfl rfl (r (lns Tryd.underlying9 rfl) (gy rfl rfl rfl (r (bi rfl rfl rfl) (r (pk rfl rfl) (r (mv rfl) ?_)))))))
    refine sp 20 rfl (fun b9 => ?_) (fun b9 => ?_)
    · have hno : numOk s = false := numOk_no (by rw [← ht]; exact .inr (.inl (by omega)))
      refine gn rfl rfl rfl (gn rfl rfl rfl (gn rfl rfl rfl (gn rfl rfl rfl (gu rfl rfl rfl (gu rfl rfl rfl (gn rfl rfl rfl (r (pk rfl rfl) (re (ct rfl (sq ?_))))))))))
      refine gen (fun ρ => ρ 0 = .string s ∧ ρ 1 = bv ∧ ρ 4 = .int .i64 0 ∧ ρ 5 = .bool false ∧ ρ 6 = .string dg ∧ True) ⟨rfl, rfl, rfl, rfl, rfl, trivial⟩ ?_
      rintro ρ ⟨z0, z1, z4, z5, z6, -⟩
      refine rg (r (sa rfl) (r (sa rfl) (re (rt ?_))))
      exact fin2 (v := .int .i64 0) (v' := .bool false) Tryd.results126 rfl rfl ⟨by simp [hno], Hold.ch H1⟩
    · have hp : 0 < (nums8 dg).length := by omega
      have hh := head0 hp
      have hss := trim_size ht (by omega)
      refine gy rfl rfl rfl (r (mv rfl) (gy rfl rfl rfl (r (six (j := 0) Tryd.underlying9 rfl rfl (by omega)) (gy rfl rfl rfl (r (bi rfl rfl rfl) (gy rfl rfl rfl (r (mv rfl) ?_)))))))
      refine sp 24 rfl (fun b48 => ?_) (fun b48 => ?_)
      · refine gy rfl rfl rfl (r (mv rfl) (gy rfl rfl rfl (r (sne rfl rfl) (gy rfl rfl rfl (r (pk rfl rfl) (r (pk rfl rfl) (re ?_)))))))
        refine cpn rfl (fun b1 => ?_) (fun b1 => ?_)
        · have hno : numOk s = false := numOk_no (by rw [← ht]; exact .inr (.inr (.inl ⟨by rw [hh]; exact congrArg some b48, ne48 b1⟩)))
          refine sq ?_
          refine gen (fun ρ => ρ 0 = .string s ∧ ρ 1 = bv ∧ ρ 4 = .int .i64 0 ∧ ρ 5 = .bool false ∧ ρ 6 = .string dg ∧ True) ⟨rfl, rfl, rfl, rfl, rfl, trivial⟩ ?_
          rintro ρ ⟨z0, z1, z4, z5, z6, -⟩
          refine rg (r (sa rfl) (r (sa rfl) (re (rt ?_))))
          exact fin2 (v := .int .i64 0) (v' := .bool false) Tryd.results126 rfl rfl ⟨by simp [hno], Hold.ch H1⟩
        · have h1 : ¬ ((trimL (nums8 s)).length = 0 ∨ 9 < (trimL (nums8 s)).length ∨ ((trimL (nums8 s)).head? = some 48 ∧ nums8 s ≠ [48])) := by
            rw [← ht]; exact (fun h => by rcases h with h | h | h <;> first | omega | (exact h.2 (by subst b1; rfl)))
          refine sk (sq (sq ?_))
          refine gen (fun ρ => ρ 0 = .string s ∧ ρ 1 = bv ∧ ρ 4 = .int .i64 0 ∧ ρ 5 = .bool false ∧ ρ 6 = .string dg ∧ True) ⟨rfl, rfl, rfl, rfl, rfl, trivial⟩ ?_
          rintro ρ ⟨z0, z1, z4, z5, z6, -⟩
          refine rg (r (mv z6) (r (lns Tryd.underlying9 rfl) (r (mv rfl) (re (bl ?_)))))
          refine lp (α := Nat) (fun i ρ w' => ρ 0 = .string s ∧ ρ 1 = bv ∧ ρ 6 = .string dg ∧ ρ 30 = .int .i64 (dg.size : Int) ∧ ρ 31 = .int .i64 (i : Int) ∧ Hold w [] w' [] ∧ i ≤ dg.size ∧ dgs ((nums8 dg).take i)) (fun i => dg.size - i) 0 ?_ ?_
          · exact ⟨z0, z1, z6, rfl, rfl, H1, ⟨by omega, by simp [dgs]⟩⟩
          clear H1
          rintro i ρ w502 ⟨y0, y1, y6, y30, y31, H2, hi, hd⟩
          refine sq (rg (r (bi y31 y30 rfl) (re (sq ?_))))
          refine cp rfl (fun hlt => ?_) (fun hlt => ?_)
          · have hi' : i < (nums8 dg).length := by omega
            have hb := okd _ (List.getElem_mem hi')
            obtain ⟨x, hx⟩ : ∃ x, x = (nums8 dg)[i] := ⟨_, rfl⟩
            have hxm : x ∈ nums8 dg := by rw [hx]; exact List.getElem_mem hi'
            refine sk (sq (bl (sq (rg (r (mv y31) (r (sa rfl) (re (sq (rg (r (mv y6) (r (mv rfl) (r (Rn.cast (v' := .int .u8 x) (six (j := i) Tryd.underlying9 rfl rfl (by omega)) (congrArg (Value.int .u8) hx.symm)) (r (bi rfl rfl rfl) (r (mv rfl) ?_))))))))))))))
            refine sp 38 rfl (fun hlo => ?_) (fun hlo => ?_)
            · have hno : numOk s = false := numOk_no (by rw [← ht]; exact .inr (.inr (.inr (fun g => by have := g x hxm; omega))))
              refine gn rfl rfl rfl (gn rfl rfl rfl (gn rfl rfl rfl (gn rfl rfl rfl (r (pk rfl rfl) (re (ct rfl (sq ?_)))))))
              refine gen (fun ρ => ρ 0 = .string s ∧ ρ 1 = bv ∧ ρ 6 = .string dg ∧ ρ 30 = .int .i64 (dg.size : Int) ∧ ρ 31 = .int .i64 (i : Int) ∧ True) ⟨y0, y1, y6, y30, y31, trivial⟩ ?_
              rintro ρ ⟨z0, z1, z6, z30, z31, -⟩
              refine rg (r (sa rfl) (r (sa rfl) (re (rt ?_))))
              exact fin2 (v := .int .i64 0) (v' := .bool false) Tryd.results126 rfl rfl ⟨by simp [hno], Hold.ch H2⟩
            · refine gy rfl rfl rfl (r (mv y6) (gy rfl rfl rfl (r (mv rfl) (gy rfl rfl rfl (r (Rn.cast (v' := .int .u8 x) (six (j := i) Tryd.underlying9 rfl rfl (by omega)) (congrArg (Value.int .u8) hx.symm)) (gy rfl rfl rfl (r (bi rfl rfl rfl) (r (pk rfl rfl) (re ?_)))))))))
              refine cp rfl (fun hhi => ?_) (fun hhi => ?_)
              · have hno : numOk s = false := numOk_no (by rw [← ht]; exact .inr (.inr (.inr (fun g => by have := g x hxm; omega))))
                refine sq ?_
                refine gen (fun ρ => ρ 0 = .string s ∧ ρ 1 = bv ∧ ρ 6 = .string dg ∧ ρ 30 = .int .i64 (dg.size : Int) ∧ ρ 31 = .int .i64 (i : Int) ∧ True) ⟨y0, y1, y6, y30, y31, trivial⟩ ?_
                rintro ρ ⟨z0, z1, z6, z30, z31, -⟩
                refine rg (r (sa rfl) (r (sa rfl) (re (rt ?_))))
                exact fin2 (v := .int .i64 0) (v' := .bool false) Tryd.results126 rfl rfl ⟨by simp [hno], Hold.ch H2⟩
              · refine sk (be ?_)
                refine gen (fun ρ => ρ 0 = .string s ∧ ρ 1 = bv ∧ ρ 6 = .string dg ∧ ρ 30 = .int .i64 (dg.size : Int) ∧ ρ 31 = .int .i64 (i : Int) ∧ True) ⟨y0, y1, y6, y30, y31, trivial⟩ ?_
                rintro ρ ⟨z0, z1, z6, z30, z31, -⟩
                refine rg (r (ad (a := (i : Int)) (b := 1) ((i : Int) + 1) z31 rfl (by omega)) (r (mv rfl) (re ?_)))
                exact ag (i + 1) ⟨z0, z1, z6, z30, rfl, H2, ⟨by omega, by
  rw [List.take_succ_eq_append_getElem hi', ← hx]
  intro z hz
  rcases List.mem_append.1 hz with hz | hz
  · exact hd z hz
  · rw [List.mem_singleton.1 hz]; omega⟩⟩ (by first | omega | (dsimp only; omega))
          · have ei : i = (nums8 dg).length := by omega
            rw [ei, List.take_length, ht] at hd
            obtain ⟨ny1, ny2, ny3⟩ := numOk_yes h1 hd
            refine ex rfl (sq (rg (r (mv y0) (cl go143 (ParseInt_ (by omega) ny2) (ac rfl (ac rfl (ac rfl an))) ?_))))
            rintro r wp ⟨rfl, cp⟩
            have H3 : Hold w [] wp [] := Hold.t H2 cp
            clear H2
            clear cp
            refine r (mv rfl) (r (xt rfl rfl) (r (xt rfl rfl) (r (sa rfl) (r (sa rfl) (re (sq (sq (rg (r (mv rfl) (r (inne Tryd.underlying149 rfl) (r (mv rfl) (gy rfl rfl rfl (r (mv y1) (gy rfl rfl rfl (r (ln Tryd.underlying23 rfl ((hx.t (Hold.ch H3)))) (gy rfl rfl rfl (r (bi rfl rfl rfl) (gy rfl rfl rfl (r (mv rfl) ?_)))))))))))))))))))
            refine spf 56 rfl (show (decide ((bs.length : Int) = 2)) = false from (decide_eq_false (by omega))) ?_
            refine gn rfl rfl rfl (gn rfl rfl rfl (gn rfl rfl rfl (gn rfl rfl rfl (gn rfl rfl rfl (gn rfl rfl rfl (gu rfl rfl rfl (gu rfl rfl rfl (gu rfl rfl rfl (gu rfl rfl rfl (gu rfl rfl rfl (gn rfl rfl rfl (gy rfl rfl rfl (r (pk rfl rfl) (r (pk rfl rfl) (re (cf rfl (sk (sq ?_))))))))))))))))))
            refine gen (fun ρ => ρ 8 = .int .i64 ((numI (nums8 s)).1) ∧ True) ⟨rfl, trivial⟩ ?_
            rintro ρ ⟨z8, -⟩
            refine rg (r (mv z8) (r (sa rfl) (r (sa rfl) (re (rt ?_)))))
            exact fin2 (v := .int .i64 ((numI (nums8 s)).1)) (v' := .bool true) Tryd.results126 rfl rfl ⟨by simp [ny1, ny3], Hold.ch H3⟩
      · have h1 : ¬ ((trimL (nums8 s)).length = 0 ∨ 9 < (trimL (nums8 s)).length ∨ ((trimL (nums8 s)).head? = some 48 ∧ nums8 s ≠ [48])) := by
          rw [← ht]; exact (fun h => by rcases h with h | h | h <;> first | omega | (rw [hh] at h; exact b48 (Option.some.inj h.1)))
        refine gn rfl rfl rfl (gn rfl rfl rfl (gy rfl rfl rfl (r (pk rfl rfl) (r (pk rfl rfl) (re (cf rfl (sk (sq (sq ?_)))))))))
        refine gen (fun ρ => ρ 0 = .string s ∧ ρ 1 = bv ∧ ρ 4 = .int .i64 0 ∧ ρ 5 = .bool false ∧ ρ 6 = .string dg ∧ True) ⟨rfl, rfl, rfl, rfl, rfl, trivial⟩ ?_
        rintro ρ ⟨z0, z1, z4, z5, z6, -⟩
        refine rg (r (mv z6) (r (lns Tryd.underlying9 rfl) (r (mv rfl) (re (bl ?_)))))
        refine lp (α := Nat) (fun i ρ w' => ρ 0 = .string s ∧ ρ 1 = bv ∧ ρ 6 = .string dg ∧ ρ 30 = .int .i64 (dg.size : Int) ∧ ρ 31 = .int .i64 (i : Int) ∧ Hold w [] w' [] ∧ i ≤ dg.size ∧ dgs ((nums8 dg).take i)) (fun i => dg.size - i) 0 ?_ ?_
        · exact ⟨z0, z1, z6, rfl, rfl, H1, ⟨by omega, by simp [dgs]⟩⟩
        clear H1
        rintro i ρ w502 ⟨y0, y1, y6, y30, y31, H2, hi, hd⟩
        refine sq (rg (r (bi y31 y30 rfl) (re (sq ?_))))
        refine cp rfl (fun hlt => ?_) (fun hlt => ?_)
        · have hi' : i < (nums8 dg).length := by omega
          have hb := okd _ (List.getElem_mem hi')
          obtain ⟨x, hx⟩ : ∃ x, x = (nums8 dg)[i] := ⟨_, rfl⟩
          have hxm : x ∈ nums8 dg := by rw [hx]; exact List.getElem_mem hi'
          refine sk (sq (bl (sq (rg (r (mv y31) (r (sa rfl) (re (sq (rg (r (mv y6) (r (mv rfl) (r (Rn.cast (v' := .int .u8 x) (six (j := i) Tryd.underlying9 rfl rfl (by omega)) (congrArg (Value.int .u8) hx.symm)) (r (bi rfl rfl rfl) (r (mv rfl) ?_))))))))))))))
          refine sp 38 rfl (fun hlo => ?_) (fun hlo => ?_)
          · have hno : numOk s = false := numOk_no (by rw [← ht]; exact .inr (.inr (.inr (fun g => by have := g x hxm; omega))))
            refine gn rfl rfl rfl (gn rfl rfl rfl (gn rfl rfl rfl (gn rfl rfl rfl (r (pk rfl rfl) (re (ct rfl (sq ?_)))))))
            refine gen (fun ρ => ρ 0 = .string s ∧ ρ 1 = bv ∧ ρ 6 = .string dg ∧ ρ 30 = .int .i64 (dg.size : Int) ∧ ρ 31 = .int .i64 (i : Int) ∧ True) ⟨y0, y1, y6, y30, y31, trivial⟩ ?_
            rintro ρ ⟨z0, z1, z6, z30, z31, -⟩
            refine rg (r (sa rfl) (r (sa rfl) (re (rt ?_))))
            exact fin2 (v := .int .i64 0) (v' := .bool false) Tryd.results126 rfl rfl ⟨by simp [hno], Hold.ch H2⟩
          · refine gy rfl rfl rfl (r (mv y6) (gy rfl rfl rfl (r (mv rfl) (gy rfl rfl rfl (r (Rn.cast (v' := .int .u8 x) (six (j := i) Tryd.underlying9 rfl rfl (by omega)) (congrArg (Value.int .u8) hx.symm)) (gy rfl rfl rfl (r (bi rfl rfl rfl) (r (pk rfl rfl) (re ?_)))))))))
            refine cp rfl (fun hhi => ?_) (fun hhi => ?_)
            · have hno : numOk s = false := numOk_no (by rw [← ht]; exact .inr (.inr (.inr (fun g => by have := g x hxm; omega))))
              refine sq ?_
              refine gen (fun ρ => ρ 0 = .string s ∧ ρ 1 = bv ∧ ρ 6 = .string dg ∧ ρ 30 = .int .i64 (dg.size : Int) ∧ ρ 31 = .int .i64 (i : Int) ∧ True) ⟨y0, y1, y6, y30, y31, trivial⟩ ?_
              rintro ρ ⟨z0, z1, z6, z30, z31, -⟩
              refine rg (r (sa rfl) (r (sa rfl) (re (rt ?_))))
              exact fin2 (v := .int .i64 0) (v' := .bool false) Tryd.results126 rfl rfl ⟨by simp [hno], Hold.ch H2⟩
            · refine sk (be ?_)
              refine gen (fun ρ => ρ 0 = .string s ∧ ρ 1 = bv ∧ ρ 6 = .string dg ∧ ρ 30 = .int .i64 (dg.size : Int) ∧ ρ 31 = .int .i64 (i : Int) ∧ True) ⟨y0, y1, y6, y30, y31, trivial⟩ ?_
              rintro ρ ⟨z0, z1, z6, z30, z31, -⟩
              refine rg (r (ad (a := (i : Int)) (b := 1) ((i : Int) + 1) z31 rfl (by omega)) (r (mv rfl) (re ?_)))
              exact ag (i + 1) ⟨z0, z1, z6, z30, rfl, H2, ⟨by omega, by
  rw [List.take_succ_eq_append_getElem hi', ← hx]
  intro z hz
  rcases List.mem_append.1 hz with hz | hz
  · exact hd z hz
  · rw [List.mem_singleton.1 hz]; omega⟩⟩ (by first | omega | (dsimp only; omega))
        · have ei : i = (nums8 dg).length := by omega
          rw [ei, List.take_length, ht] at hd
          obtain ⟨ny1, ny2, ny3⟩ := numOk_yes h1 hd
          refine ex rfl (sq (rg (r (mv y0) (cl go143 (ParseInt_ (by omega) ny2) (ac rfl (ac rfl (ac rfl an))) ?_))))
          rintro r wp ⟨rfl, cp⟩
          have H3 : Hold w [] wp [] := Hold.t H2 cp
          clear H2
          clear cp
          refine r (mv rfl) (r (xt rfl rfl) (r (xt rfl rfl) (r (sa rfl) (r (sa rfl) (re (sq (sq (rg (r (mv rfl) (r (inne Tryd.underlying149 rfl) (r (mv rfl) (gy rfl rfl rfl (r (mv y1) (gy rfl rfl rfl (r (ln Tryd.underlying23 rfl ((hx.t (Hold.ch H3)))) (gy rfl rfl rfl (r (bi rfl rfl rfl) (gy rfl rfl rfl (r (mv rfl) ?_)))))))))))))))))))
          refine spf 56 rfl (show (decide ((bs.length : Int) = 2)) = false from (decide_eq_false (by omega))) ?_
          refine gn rfl rfl rfl (gn rfl rfl rfl (gn rfl rfl rfl (gn rfl rfl rfl (gn rfl rfl rfl (gn rfl rfl rfl (gu rfl rfl rfl (gu rfl rfl rfl (gu rfl rfl rfl (gu rfl rfl rfl (gu rfl rfl rfl (gn rfl rfl rfl (gy rfl rfl rfl (r (pk rfl rfl) (r (pk rfl rfl) (re (cf rfl (sk (sq ?_))))))))))))))))))
          refine gen (fun ρ => ρ 8 = .int .i64 ((numI (nums8 s)).1) ∧ True) ⟨rfl, trivial⟩ ?_
          rintro ρ ⟨z8, -⟩
          refine rg (r (mv z8) (r (sa rfl) (r (sa rfl) (re (rt ?_)))))
          exact fin2 (v := .int .i64 ((numI (nums8 s)).1)) (v' := .bool true) Tryd.results126 rfl rfl ⟨by simp [ny1, ny3], Hold.ch H3⟩
theorem number2 {w : World} {F : List Nat} {s : ByteArray} {bv : Value} {bs : List Int} {bnl bnh : Int} (hx : i64.R w F bv bs) (hb : bs = [bnl, bnh]) : Ret Tryd.prog 126 #[.string s, bv] w (fun r w' => r = .tuple #[.int .i64 (if numOk s && decide (bnl ≤ numV s ∧ numV s ≤ bnh) then numV s else 0), .bool (numOk s && decide (bnl ≤ numV s ∧ numV s ≤ bnh))] ∧ Ch [] w w') := by
  refine enter Tryd.func126 rfl Tryd.ntmps126 (by rfl) (by rfl) ?_
  have H0 : Hold w [] w [] := Hold.start w
  refine sq (rg (r (sa rfl) (r (sa rfl) (re (sq (rg (r (mv rfl) (cl go142 (TrimPrefix_) (ac rfl (ac rfl an)) ?_))))))))
  rintro r wt ⟨dg, rfl, ht, ct⟩
  have H1 : Hold w [] wt [] := Hold.t H0 ct
  clear H0
  clear ct
  refine r (sa rfl) (re (sq (sq (rg (r (mv rfl) (r (lns Tryd.underlying9 rfl) (r (bi rfl rfl rfl) (r (mv rfl) ?_))))))))
  have hl := nums8_len dg
  have okd := nums8_ok dg
  refine sp 15 rfl (fun b0 => ?_) (fun b0 => ?_)
  · have hno : numOk s = false := numOk_no (by rw [← ht]; exact .inl (by omega))
    refine gn rfl rfl rfl (gn rfl rfl rfl (gn rfl rfl rfl (r (pk rfl rfl) (r (mv rfl) (gn rfl rfl rfl (gn rfl rfl rfl (gn rfl rfl rfl (gn rfl rfl rfl (gu rfl rfl rfl (gu rfl rfl rfl (gn rfl rfl rfl (r (pk rfl rfl) (re (ct rfl (sq ?_)))))))))))))))
    refine gen (fun ρ => ρ 0 = .string s ∧ ρ 1 = bv ∧ ρ 4 = .int .i64 0 ∧ ρ 5 = .bool false ∧ ρ 6 = .string dg ∧ True) ⟨rfl, rfl, rfl, rfl, rfl, trivial⟩ ?_
    rintro ρ ⟨z0, z1, z4, z5, z6, -⟩
    refine rg (r (sa rfl) (r (sa rfl) (re (rt ?_))))
    exact fin2 (v := .int .i64 0) (v' := .bool false) Tryd.results126 rfl rfl ⟨by simp [hno], Hold.ch H1⟩
  · refine gy rfl rfl rfl (r (mv rfl) (gy rfl rfl rfl (r (lns Tryd.underlying9 rfl) (gy rfl rfl rfl (r (bi rfl rfl rfl) (r (pk rfl rfl) (r (mv rfl) ?_)))))))
    refine sp 20 rfl (fun b9 => ?_) (fun b9 => ?_)
    · have hno : numOk s = false := numOk_no (by rw [← ht]; exact .inr (.inl (by omega)))
      refine gn rfl rfl rfl (gn rfl rfl rfl (gn rfl rfl rfl (gn rfl rfl rfl (gu rfl rfl rfl (gu rfl rfl rfl (gn rfl rfl rfl (r (pk rfl rfl) (re (ct rfl (sq ?_))))))))))
      refine gen (fun ρ => ρ 0 = .string s ∧ ρ 1 = bv ∧ ρ 4 = .int .i64 0 ∧ ρ 5 = .bool false ∧ ρ 6 = .string dg ∧ True) ⟨rfl, rfl, rfl, rfl, rfl, trivial⟩ ?_
      rintro ρ ⟨z0, z1, z4, z5, z6, -⟩
      refine rg (r (sa rfl) (r (sa rfl) (re (rt ?_))))
      exact fin2 (v := .int .i64 0) (v' := .bool false) Tryd.results126 rfl rfl ⟨by simp [hno], Hold.ch H1⟩
    · have hp : 0 < (nums8 dg).length := by omega
      have hh := head0 hp
      have hss := trim_size ht (by omega)
      refine gy rfl rfl rfl (r (mv rfl) (gy rfl rfl rfl (r (six (j := 0) Tryd.underlying9 rfl rfl (by omega)) (gy rfl rfl rfl (r (bi rfl rfl rfl) (gy rfl rfl rfl (r (mv rfl) ?_)))))))
      refine sp 24 rfl (fun b48 => ?_) (fun b48 => ?_)
      · refine gy rfl rfl rfl (r (mv rfl) (gy rfl rfl rfl (r (sne rfl rfl) (gy rfl rfl rfl (r (pk rfl rfl) (r (pk rfl rfl) (re ?_)))))))
        refine cpn rfl (fun b1 => ?_) (fun b1 => ?_)
        · have hno : numOk s = false := numOk_no (by rw [← ht]; exact .inr (.inr (.inl ⟨by rw [hh]; exact congrArg some b48, ne48 b1⟩)))
          refine sq ?_
          refine gen (fun ρ => ρ 0 = .string s ∧ ρ 1 = bv ∧ ρ 4 = .int .i64 0 ∧ ρ 5 = .bool false ∧ ρ 6 = .string dg ∧ True) ⟨rfl, rfl, rfl, rfl, rfl, trivial⟩ ?_
          rintro ρ ⟨z0, z1, z4, z5, z6, -⟩
          refine rg (r (sa rfl) (r (sa rfl) (re (rt ?_))))
          exact fin2 (v := .int .i64 0) (v' := .bool false) Tryd.results126 rfl rfl ⟨by simp [hno], Hold.ch H1⟩
        · have h1 : ¬ ((trimL (nums8 s)).length = 0 ∨ 9 < (trimL (nums8 s)).length ∨ ((trimL (nums8 s)).head? = some 48 ∧ nums8 s ≠ [48])) := by
            rw [← ht]; exact (fun h => by rcases h with h | h | h <;> first | omega | (exact h.2 (by subst b1; rfl)))
          refine sk (sq (sq ?_))
          refine gen (fun ρ => ρ 0 = .string s ∧ ρ 1 = bv ∧ ρ 4 = .int .i64 0 ∧ ρ 5 = .bool false ∧ ρ 6 = .string dg ∧ True) ⟨rfl, rfl, rfl, rfl, rfl, trivial⟩ ?_
          rintro ρ ⟨z0, z1, z4, z5, z6, -⟩
          refine rg (r (mv z6) (r (lns Tryd.underlying9 rfl) (r (mv rfl) (re (bl ?_)))))
          refine lp (α := Nat) (fun i ρ w' => ρ 0 = .string s ∧ ρ 1 = bv ∧ ρ 6 = .string dg ∧ ρ 30 = .int .i64 (dg.size : Int) ∧ ρ 31 = .int .i64 (i : Int) ∧ Hold w [] w' [] ∧ i ≤ dg.size ∧ dgs ((nums8 dg).take i)) (fun i => dg.size - i) 0 ?_ ?_
          · exact ⟨z0, z1, z6, rfl, rfl, H1, ⟨by omega, by simp [dgs]⟩⟩
          clear H1
          rintro i ρ w502 ⟨y0, y1, y6, y30, y31, H2, hi, hd⟩
          refine sq (rg (r (bi y31 y30 rfl) (re (sq ?_))))
          refine cp rfl (fun hlt => ?_) (fun hlt => ?_)
          · have hi' : i < (nums8 dg).length := by omega
            have hb := okd _ (List.getElem_mem hi')
            obtain ⟨x, hx⟩ : ∃ x, x = (nums8 dg)[i] := ⟨_, rfl⟩
            have hxm : x ∈ nums8 dg := by rw [hx]; exact List.getElem_mem hi'
            refine sk (sq (bl (sq (rg (r (mv y31) (r (sa rfl) (re (sq (rg (r (mv y6) (r (mv rfl) (r (Rn.cast (v' := .int .u8 x) (six (j := i) Tryd.underlying9 rfl rfl (by omega)) (congrArg (Value.int .u8) hx.symm)) (r (bi rfl rfl rfl) (r (mv rfl) ?_))))))))))))))
            refine sp 38 rfl (fun hlo => ?_) (fun hlo => ?_)
            · have hno : numOk s = false := numOk_no (by rw [← ht]; exact .inr (.inr (.inr (fun g => by have := g x hxm; omega))))
              refine gn rfl rfl rfl (gn rfl rfl rfl (gn rfl rfl rfl (gn rfl rfl rfl (r (pk rfl rfl) (re (ct rfl (sq ?_)))))))
              refine gen (fun ρ => ρ 0 = .string s ∧ ρ 1 = bv ∧ ρ 6 = .string dg ∧ ρ 30 = .int .i64 (dg.size : Int) ∧ ρ 31 = .int .i64 (i : Int) ∧ True) ⟨y0, y1, y6, y30, y31, trivial⟩ ?_
              rintro ρ ⟨z0, z1, z6, z30, z31, -⟩
              refine rg (r (sa rfl) (r (sa rfl) (re (rt ?_))))
              exact fin2 (v := .int .i64 0) (v' := .bool false) Tryd.results126 rfl rfl ⟨by simp [hno], Hold.ch H2⟩
            · refine gy rfl rfl rfl (r (mv y6) (gy rfl rfl rfl (r (mv rfl) (gy rfl rfl rfl (r (Rn.cast (v' := .int .u8 x) (six (j := i) Tryd.underlying9 rfl rfl (by omega)) (congrArg (Value.int .u8) hx.symm)) (gy rfl rfl rfl (r (bi rfl rfl rfl) (r (pk rfl rfl) (re ?_)))))))))
              refine cp rfl (fun hhi => ?_) (fun hhi => ?_)
              · have hno : numOk s = false := numOk_no (by rw [← ht]; exact .inr (.inr (.inr (fun g => by have := g x hxm; omega))))
                refine sq ?_
                refine gen (fun ρ => ρ 0 = .string s ∧ ρ 1 = bv ∧ ρ 6 = .string dg ∧ ρ 30 = .int .i64 (dg.size : Int) ∧ ρ 31 = .int .i64 (i : Int) ∧ True) ⟨y0, y1, y6, y30, y31, trivial⟩ ?_
                rintro ρ ⟨z0, z1, z6, z30, z31, -⟩
                refine rg (r (sa rfl) (r (sa rfl) (re (rt ?_))))
                exact fin2 (v := .int .i64 0) (v' := .bool false) Tryd.results126 rfl rfl ⟨by simp [hno], Hold.ch H2⟩
              · refine sk (be ?_)
                refine gen (fun ρ => ρ 0 = .string s ∧ ρ 1 = bv ∧ ρ 6 = .string dg ∧ ρ 30 = .int .i64 (dg.size : Int) ∧ ρ 31 = .int .i64 (i : Int) ∧ True) ⟨y0, y1, y6, y30, y31, trivial⟩ ?_
                rintro ρ ⟨z0, z1, z6, z30, z31, -⟩
                refine rg (r (ad (a := (i : Int)) (b := 1) ((i : Int) + 1) z31 rfl (by omega)) (r (mv rfl) (re ?_)))
                exact ag (i + 1) ⟨z0, z1, z6, z30, rfl, H2, ⟨by omega, by
  rw [List.take_succ_eq_append_getElem hi', ← hx]
  intro z hz
  rcases List.mem_append.1 hz with hz | hz
  · exact hd z hz
  · rw [List.mem_singleton.1 hz]; omega⟩⟩ (by first | omega | (dsimp only; omega))
          · have ei : i = (nums8 dg).length := by omega
            rw [ei, List.take_length, ht] at hd
            obtain ⟨ny1, ny2, ny3⟩ := numOk_yes h1 hd
            refine ex rfl (sq (rg (r (mv y0) (cl go143 (ParseInt_ (by omega) ny2) (ac rfl (ac rfl (ac rfl an))) ?_))))
            rintro r wp ⟨rfl, cp⟩
            have H3 : Hold w [] wp [] := Hold.t H2 cp
            clear H2
            clear cp
            refine r (mv rfl) (r (xt rfl rfl) (r (xt rfl rfl) (r (sa rfl) (r (sa rfl) (re (sq (sq (rg (r (mv rfl) (r (inne Tryd.underlying149 rfl) (r (mv rfl) (gy rfl rfl rfl (r (mv y1) (gy rfl rfl rfl (r (ln Tryd.underlying23 rfl ((hx.t (Hold.ch H3)))) (gy rfl rfl rfl (r (bi rfl rfl rfl) (gy rfl rfl rfl (r (mv rfl) ?_)))))))))))))))))))
            refine spf 56 rfl (show (decide ((bs.length : Int) = 2)) = true from (decide_eq_true (by subst hb; rfl))) ?_
            have hbl : bs.length = 2 := by subst hb; rfl
            refine gy rfl rfl rfl (r (mv rfl) (gy rfl rfl rfl (r (mv y1) (gy rfl rfl rfl ?_))))
            obtain ⟨c59_3, ad59_3, k59_3, e59_3, p59_3⟩ := Kd.R.place hx 0 ((by omega))
            refine r (ix (j := 0) Tryd.underlying23 ti2 e59_3 rfl ((by omega))) (gy rfl rfl rfl (r (Rn.cast (v' := .int .i64 bnl) (ld Tryd.underlying2 rfl rfl (Ch.cell (Hold.ch H3) p59_3.cell)) (congrArg (Value.int .i64) (by subst hb; rfl))) (gy rfl rfl rfl (r (bi rfl rfl rfl) (gy rfl rfl rfl (r (mv rfl) ?_))))))
            refine sp 62 rfl (fun hlo2 => ?_) (fun hlo2 => ?_)
            · refine gn rfl rfl rfl (gn rfl rfl rfl (gn rfl rfl rfl (gn rfl rfl rfl (gn rfl rfl rfl (gy rfl rfl rfl (r (pk rfl rfl) (gy rfl rfl rfl (r (pk rfl rfl) (r (pk rfl rfl) (re (ct rfl (sq ?_))))))))))))
              refine gen (fun ρ => ρ 8 = .int .i64 ((numI (nums8 s)).1) ∧ True) ⟨rfl, trivial⟩ ?_
              rintro ρ ⟨z8, -⟩
              refine rg (r (sa rfl) (r (sa rfl) (re (rt ?_))))
              exact fin2 (v := .int .i64 0) (v' := .bool false) Tryd.results126 rfl rfl ⟨by rw [if_neg (by simp [ny1]; omega)]; congr 4; simp [ny1]; omega, Hold.ch H3⟩
            · refine gy rfl rfl rfl (r (mv rfl) (gy rfl rfl rfl (r (mv y1) (gy rfl rfl rfl ?_))))
              obtain ⟨c65_4, ad65_4, k65_4, e65_4, p65_4⟩ := Kd.R.place hx 1 ((by omega))
              refine r (ix (j := 1) Tryd.underlying23 ti2 e65_4 rfl ((by omega))) (gy rfl rfl rfl (r (Rn.cast (v' := .int .i64 bnh) (ld Tryd.underlying2 rfl rfl (Ch.cell (Hold.ch H3) p65_4.cell)) (congrArg (Value.int .i64) (by subst hb; rfl))) (gy rfl rfl rfl (r (bi rfl rfl rfl) (gy rfl rfl rfl (r (pk rfl rfl) (gy rfl rfl rfl (r (pk rfl rfl) (r (pk rfl rfl) (re ?_))))))))))
              refine cp rfl (fun hhi2 => ?_) (fun hhi2 => ?_)
              · refine sq ?_
                refine gen (fun ρ => ρ 8 = .int .i64 ((numI (nums8 s)).1) ∧ True) ⟨rfl, trivial⟩ ?_
                rintro ρ ⟨z8, -⟩
                refine rg (r (sa rfl) (r (sa rfl) (re (rt ?_))))
                exact fin2 (v := .int .i64 0) (v' := .bool false) Tryd.results126 rfl rfl ⟨by rw [if_neg (by simp [ny1]; omega)]; congr 4; simp [ny1]; omega, Hold.ch H3⟩
              · refine sk (sq ?_)
                refine gen (fun ρ => ρ 8 = .int .i64 ((numI (nums8 s)).1) ∧ True) ⟨rfl, trivial⟩ ?_
                rintro ρ ⟨z8, -⟩
                refine rg (r (mv z8) (r (sa rfl) (r (sa rfl) (re (rt ?_)))))
                exact fin2 (v := .int .i64 ((numI (nums8 s)).1)) (v' := .bool true) Tryd.results126 rfl rfl ⟨by rw [if_pos (by simp [ny1]; omega), ny3]; congr 4; simp [ny1]; omega, Hold.ch H3⟩
      · have h1 : ¬ ((trimL (nums8 s)).length = 0 ∨ 9 < (trimL (nums8 s)).length ∨ ((trimL (nums8 s)).head? = some 48 ∧ nums8 s ≠ [48])) := by
          rw [← ht]; exact (fun h => by rcases h with h | h | h <;> first | omega | (rw [hh] at h; exact b48 (Option.some.inj h.1)))
        refine gn rfl rfl rfl (gn rfl rfl rfl (gy rfl rfl rfl (r (pk rfl rfl) (r (pk rfl rfl) (re (cf rfl (sk (sq (sq ?_)))))))))
        refine gen (fun ρ => ρ 0 = .string s ∧ ρ 1 = bv ∧ ρ 4 = .int .i64 0 ∧ ρ 5 = .bool false ∧ ρ 6 = .string dg ∧ True) ⟨rfl, rfl, rfl, rfl, rfl, trivial⟩ ?_
        rintro ρ ⟨z0, z1, z4, z5, z6, -⟩
        refine rg (r (mv z6) (r (lns Tryd.underlying9 rfl) (r (mv rfl) (re (bl ?_)))))
        refine lp (α := Nat) (fun i ρ w' => ρ 0 = .string s ∧ ρ 1 = bv ∧ ρ 6 = .string dg ∧ ρ 30 = .int .i64 (dg.size : Int) ∧ ρ 31 = .int .i64 (i : Int) ∧ Hold w [] w' [] ∧ i ≤ dg.size ∧ dgs ((nums8 dg).take i)) (fun i => dg.size - i) 0 ?_ ?_
        · exact ⟨z0, z1, z6, rfl, rfl, H1, ⟨by omega, by simp [dgs]⟩⟩
        clear H1
        rintro i ρ w502 ⟨y0, y1, y6, y30, y31, H2, hi, hd⟩
        refine sq (rg (r (bi y31 y30 rfl) (re (sq ?_))))
        refine cp rfl (fun hlt => ?_) (fun hlt => ?_)
        · have hi' : i < (nums8 dg).length := by omega
          have hb := okd _ (List.getElem_mem hi')
          obtain ⟨x, hx⟩ : ∃ x, x = (nums8 dg)[i] := ⟨_, rfl⟩
          have hxm : x ∈ nums8 dg := by rw [hx]; exact List.getElem_mem hi'
          refine sk (sq (bl (sq (rg (r (mv y31) (r (sa rfl) (re (sq (rg (r (mv y6) (r (mv rfl) (r (Rn.cast (v' := .int .u8 x) (six (j := i) Tryd.underlying9 rfl rfl (by omega)) (congrArg (Value.int .u8) hx.symm)) (r (bi rfl rfl rfl) (r (mv rfl) ?_))))))))))))))
          refine sp 38 rfl (fun hlo => ?_) (fun hlo => ?_)
          · have hno : numOk s = false := numOk_no (by rw [← ht]; exact .inr (.inr (.inr (fun g => by have := g x hxm; omega))))
            refine gn rfl rfl rfl (gn rfl rfl rfl (gn rfl rfl rfl (gn rfl rfl rfl (r (pk rfl rfl) (re (ct rfl (sq ?_)))))))
            refine gen (fun ρ => ρ 0 = .string s ∧ ρ 1 = bv ∧ ρ 6 = .string dg ∧ ρ 30 = .int .i64 (dg.size : Int) ∧ ρ 31 = .int .i64 (i : Int) ∧ True) ⟨y0, y1, y6, y30, y31, trivial⟩ ?_
            rintro ρ ⟨z0, z1, z6, z30, z31, -⟩
            refine rg (r (sa rfl) (r (sa rfl) (re (rt ?_))))
            exact fin2 (v := .int .i64 0) (v' := .bool false) Tryd.results126 rfl rfl ⟨by simp [hno], Hold.ch H2⟩
          · refine gy rfl rfl rfl (r (mv y6) (gy rfl rfl rfl (r (mv rfl) (gy rfl rfl rfl (r (Rn.cast (v' := .int .u8 x) (six (j := i) Tryd.underlying9 rfl rfl (by omega)) (congrArg (Value.int .u8) hx.symm)) (gy rfl rfl rfl (r (bi rfl rfl rfl) (r (pk rfl rfl) (re ?_)))))))))
            refine cp rfl (fun hhi => ?_) (fun hhi => ?_)
            · have hno : numOk s = false := numOk_no (by rw [← ht]; exact .inr (.inr (.inr (fun g => by have := g x hxm; omega))))
              refine sq ?_
              refine gen (fun ρ => ρ 0 = .string s ∧ ρ 1 = bv ∧ ρ 6 = .string dg ∧ ρ 30 = .int .i64 (dg.size : Int) ∧ ρ 31 = .int .i64 (i : Int) ∧ True) ⟨y0, y1, y6, y30, y31, trivial⟩ ?_
              rintro ρ ⟨z0, z1, z6, z30, z31, -⟩
              refine rg (r (sa rfl) (r (sa rfl) (re (rt ?_))))
              exact fin2 (v := .int .i64 0) (v' := .bool false) Tryd.results126 rfl rfl ⟨by simp [hno], Hold.ch H2⟩
            · refine sk (be ?_)
              refine gen (fun ρ => ρ 0 = .string s ∧ ρ 1 = bv ∧ ρ 6 = .string dg ∧ ρ 30 = .int .i64 (dg.size : Int) ∧ ρ 31 = .int .i64 (i : Int) ∧ True) ⟨y0, y1, y6, y30, y31, trivial⟩ ?_
              rintro ρ ⟨z0, z1, z6, z30, z31, -⟩
              refine rg (r (ad (a := (i : Int)) (b := 1) ((i : Int) + 1) z31 rfl (by omega)) (r (mv rfl) (re ?_)))
              exact ag (i + 1) ⟨z0, z1, z6, z30, rfl, H2, ⟨by omega, by
  rw [List.take_succ_eq_append_getElem hi', ← hx]
  intro z hz
  rcases List.mem_append.1 hz with hz | hz
  · exact hd z hz
  · rw [List.mem_singleton.1 hz]; omega⟩⟩ (by first | omega | (dsimp only; omega))
        · have ei : i = (nums8 dg).length := by omega
          rw [ei, List.take_length, ht] at hd
          obtain ⟨ny1, ny2, ny3⟩ := numOk_yes h1 hd
          refine ex rfl (sq (rg (r (mv y0) (cl go143 (ParseInt_ (by omega) ny2) (ac rfl (ac rfl (ac rfl an))) ?_))))
          rintro r wp ⟨rfl, cp⟩
          have H3 : Hold w [] wp [] := Hold.t H2 cp
          clear H2
          clear cp
          refine r (mv rfl) (r (xt rfl rfl) (r (xt rfl rfl) (r (sa rfl) (r (sa rfl) (re (sq (sq (rg (r (mv rfl) (r (inne Tryd.underlying149 rfl) (r (mv rfl) (gy rfl rfl rfl (r (mv y1) (gy rfl rfl rfl (r (ln Tryd.underlying23 rfl ((hx.t (Hold.ch H3)))) (gy rfl rfl rfl (r (bi rfl rfl rfl) (gy rfl rfl rfl (r (mv rfl) ?_)))))))))))))))))))
          refine spf 56 rfl (show (decide ((bs.length : Int) = 2)) = true from (decide_eq_true (by subst hb; rfl))) ?_
          have hbl : bs.length = 2 := by subst hb; rfl
          refine gy rfl rfl rfl (r (mv rfl) (gy rfl rfl rfl (r (mv y1) (gy rfl rfl rfl ?_))))
          obtain ⟨c59_3, ad59_3, k59_3, e59_3, p59_3⟩ := Kd.R.place hx 0 ((by omega))
          refine r (ix (j := 0) Tryd.underlying23 ti2 e59_3 rfl ((by omega))) (gy rfl rfl rfl (r (Rn.cast (v' := .int .i64 bnl) (ld Tryd.underlying2 rfl rfl (Ch.cell (Hold.ch H3) p59_3.cell)) (congrArg (Value.int .i64) (by subst hb; rfl))) (gy rfl rfl rfl (r (bi rfl rfl rfl) (gy rfl rfl rfl (r (mv rfl) ?_))))))
          refine sp 62 rfl (fun hlo2 => ?_) (fun hlo2 => ?_)
          · refine gn rfl rfl rfl (gn rfl rfl rfl (gn rfl rfl rfl (gn rfl rfl rfl (gn rfl rfl rfl (gy rfl rfl rfl (r (pk rfl rfl) (gy rfl rfl rfl (r (pk rfl rfl) (r (pk rfl rfl) (re (ct rfl (sq ?_))))))))))))
            refine gen (fun ρ => ρ 8 = .int .i64 ((numI (nums8 s)).1) ∧ True) ⟨rfl, trivial⟩ ?_
            rintro ρ ⟨z8, -⟩
            refine rg (r (sa rfl) (r (sa rfl) (re (rt ?_))))
            exact fin2 (v := .int .i64 0) (v' := .bool false) Tryd.results126 rfl rfl ⟨by rw [if_neg (by simp [ny1]; omega)]; congr 4; simp [ny1]; omega, Hold.ch H3⟩
          · refine gy rfl rfl rfl (r (mv rfl) (gy rfl rfl rfl (r (mv y1) (gy rfl rfl rfl ?_))))
            obtain ⟨c65_4, ad65_4, k65_4, e65_4, p65_4⟩ := Kd.R.place hx 1 ((by omega))
            refine r (ix (j := 1) Tryd.underlying23 ti2 e65_4 rfl ((by omega))) (gy rfl rfl rfl (r (Rn.cast (v' := .int .i64 bnh) (ld Tryd.underlying2 rfl rfl (Ch.cell (Hold.ch H3) p65_4.cell)) (congrArg (Value.int .i64) (by subst hb; rfl))) (gy rfl rfl rfl (r (bi rfl rfl rfl) (gy rfl rfl rfl (r (pk rfl rfl) (gy rfl rfl rfl (r (pk rfl rfl) (r (pk rfl rfl) (re ?_))))))))))
            refine cp rfl (fun hhi2 => ?_) (fun hhi2 => ?_)
            · refine sq ?_
              refine gen (fun ρ => ρ 8 = .int .i64 ((numI (nums8 s)).1) ∧ True) ⟨rfl, trivial⟩ ?_
              rintro ρ ⟨z8, -⟩
              refine rg (r (sa rfl) (r (sa rfl) (re (rt ?_))))
              exact fin2 (v := .int .i64 0) (v' := .bool false) Tryd.results126 rfl rfl ⟨by rw [if_neg (by simp [ny1]; omega)]; congr 4; simp [ny1]; omega, Hold.ch H3⟩
            · refine sk (sq ?_)
              refine gen (fun ρ => ρ 8 = .int .i64 ((numI (nums8 s)).1) ∧ True) ⟨rfl, trivial⟩ ?_
              rintro ρ ⟨z8, -⟩
              refine rg (r (mv z8) (r (sa rfl) (r (sa rfl) (re (rt ?_)))))
              exact fin2 (v := .int .i64 ((numI (nums8 s)).1)) (v' := .bool true) Tryd.results126 rfl rfl ⟨by rw [if_pos (by simp [ny1]; omega), ny3]; congr 4; simp [ny1]; omega, Hold.ch H3⟩
end Go.Proofs.YtgpcanjmgdmdhaaDoor

namespace Go.Proofs.YtgpcanjmgdmdhaaDoor
open Go Go.Eng
set_option maxRecDepth 100000
set_option maxHeartbeats 4000000
set_option linter.unusedVariables false
set_option linter.unusedSimpArgs false
/-- What a line says. -/
structure LineV where
  kind : Int
  ck : Int
  nm : ByteArray
  dt : ByteArray
  sz : Int
  ns : List Int
abbrev bE : ByteArray := ⟨#[]⟩
abbrev badL : LineV := ⟨0, 0, bE, bE, 0, []⟩
abbrev mkC (k : Int) (nm dt : ByteArray) (z : Int) : LineV := ⟨1, k, nm, dt, z, []⟩
abbrev mkN (k : Int) (ns : List Int) : LineV := ⟨k, 0, bE, bE, 0, ns⟩
@[reducible] def lineVal (l : LineV) (u : Value) : Value := .agg #[.int .i64 l.kind, .int .i64 l.ck, .string l.nm, .string l.dt, .int .i64 l.sz, u]
abbrev kWrite : ByteArray := ⟨#[119, 114, 105, 116, 101]⟩
abbrev kRead : ByteArray := ⟨#[114, 101, 97, 100]⟩
abbrev kDel : ByteArray := ⟨#[100, 101, 108]⟩
abbrev kList : ByteArray := ⟨#[108, 105, 115, 116]⟩
abbrev kSync : ByteArray := ⟨#[115, 121, 110, 99]⟩
abbrev kClean : ByteArray := ⟨#[99, 108, 101, 97, 110]⟩
abbrev kStat : ByteArray := ⟨#[115, 116, 97, 116]⟩
abbrev kFill : ByteArray := ⟨#[102, 105, 108, 108]⟩
abbrev kTrunc : ByteArray := ⟨#[116, 114, 117, 110, 99]⟩
abbrev kMount : ByteArray := ⟨#[109, 111, 117, 110, 116]⟩
abbrev kArm : ByteArray := ⟨#[97, 114, 109]⟩
abbrev kCrash : ByteArray := ⟨#[99, 114, 97, 115, 104]⟩
abbrev kFlip : ByteArray := ⟨#[102, 108, 105, 112]⟩
abbrev gF (fs : List ByteArray) (i : Nat) : ByteArray := fs.getD i bE
theorem gd {fs : List ByteArray} {i : Nat} (h : i < fs.length) : fs[i] = gF fs i := by simp [gF, List.getD, h]
def dash (d : ByteArray) : ByteArray := if d = (⟨#[45]⟩ : ByteArray) then bE else d
abbrev v0 (vs : List Int) : Int := vs.getD 0 0
abbrev v1 (vs : List Int) : Int := vs.getD 1 0
theorem gi0 {vs : List Int} (h : 0 < vs.length) : vs[0] = v0 vs := by simp [v0, List.getD, h]
theorem gi1 {vs : List Int} (h : 1 < vs.length) : vs[1] = v1 vs := by simp [v1, List.getD, h]
def callV (fs : List ByteArray) : LineV :=
  if fs.length = 3 ∧ gF fs 0 = kWrite then mkC 1 (gF fs 1) (dash (gF fs 2)) 0
  else if fs.length = 2 ∧ gF fs 0 = kRead then mkC 2 (gF fs 1) bE 0
  else if fs.length = 2 ∧ gF fs 0 = kDel then mkC 4 (gF fs 1) bE 0
  else if fs.length = 1 ∧ gF fs 0 = kList then mkC 5 bE bE 0
  else if fs.length = 1 ∧ gF fs 0 = kSync then mkC 6 bE bE 0
  else if fs.length = 1 ∧ gF fs 0 = kClean then mkC 7 bE bE 0
  else if fs.length = 1 ∧ gF fs 0 = kStat then mkC 8 bE bE 0
  else if fs.length < 3 then badL
  else if numsOk (fs.drop 2) = true ∧ fs.length = 4 ∧ gF fs 0 = kFill ∧ (0 ≤ v0 (vals (fs.drop 2)) ∧ v0 (vals (fs.drop 2)) ≤ 2000) ∧ (0 ≤ v1 (vals (fs.drop 2)) ∧ v1 (vals (fs.drop 2)) ≤ 25) then mkC 1 (gF fs 1) (mkS (letL (v0 (vals (fs.drop 2))) (v1 (vals (fs.drop 2))))) 0
  else if numsOk (fs.drop 2) = true ∧ fs.length = 3 ∧ gF fs 0 = kTrunc then mkC 3 (gF fs 1) bE (v0 (vals (fs.drop 2)))
  else badL
def lineF (fs : List ByteArray) : LineV :=
  if (callV fs).kind ≠ 0 then callV fs
  else if fs.length = 1 ∧ gF fs 0 = kMount then mkN 2 []
  else if numsOk (fs.drop 1) = false then badL
  else if gF fs 0 = kArm ∧ 1 ≤ (vals (fs.drop 1)).length ∧ (1 ≤ v0 (vals (fs.drop 1)) ∧ v0 (vals (fs.drop 1)) ≤ 100000) then mkN 3 (vals (fs.drop 1))
  else if gF fs 0 = kCrash then mkN 4 (vals (fs.drop 1))
  else if gF fs 0 = kFlip ∧ (vals (fs.drop 1)).length = 2 ∧ (0 ≤ v0 (vals (fs.drop 1)) ∧ v0 (vals (fs.drop 1)) ≤ 99999) ∧ (1 ≤ v1 (vals (fs.drop 1)) ∧ v1 (vals (fs.drop 1)) ≤ 255) then mkN 5 (vals (fs.drop 1))
  else badL
def lineV (xs : List Int) : LineV := if 60000 < xs.length then badL else if (fieldsF xs).length = 0 then badL else lineF (fieldsF xs)
theorem callV_ns (fs : List ByteArray) : (callV fs).ns = [] := by
  unfold callV
  repeat' (first | rfl | split)
theorem l6Make {w : World} {k z : Int} {nm dt : ByteArray} : Ret Tryd.prog 102 #[.agg #[.int .i64 k, .string nm, .string dt, .int .i64 z]] w (fun r w' => r = lineVal (mkC k nm dt z) (.slice none 0 0) ∧ Ch [] w w') := by
  refine enter Tryd.func102 rfl Tryd.ntmps102 (by rfl) (by rfl) ?_
  have H0 : Hold w [] w [] := Hold.start w
  refine sq (rg (ef (xbx (t := 62) rfl rfl) ?_))
  rintro _ w1 ⟨g1, e1, rfl, -, b1, c1⟩
  have H1 : Hold w [] w1 [rB g1 62 ([.int .i64 k, .string nm, .string dt, .int .i64 z])] := Hold.newB H0 e1 b1 c1
  clear H0
  clear e1 b1 c1
  refine ef (xal ti71) ?_
  rintro _ w2 ⟨g2, e2, rfl, -, b2, c2⟩
  have H2 : Hold w [] w2 [rB g1 62 ([.int .i64 k, .string nm, .string dt, .int .i64 z]), rB g2 71 ([.int .i64 0, .int .i64 0, .string ⟨#[]⟩, .string ⟨#[]⟩, .int .i64 0, .slice none 0 0])] := Hold.newB H1 e2 b2 c2
  clear H1
  clear e2 b2 c2
  have b3 : B w2 g1 62 ([.int .i64 k, .string nm, .string dt, .int .i64 z]) := Hold.blk H2 0 rfl
  have b4 : B w2 g2 71 ([.int .i64 0, .int .i64 0, .string ⟨#[]⟩, .string ⟨#[]⟩, .int .i64 0, .slice none 0 0]) := Hold.blk H2 1 rfl
  refine re (sq (rg (r (lab [.int .i64 k, .string nm, .string dt, .int .i64 z] Tryd.underlying62 rfl ti62 rfl b3 rfl rfl) (r (bd (r := [.int .i64 1, .int .i64 k, .string nm, .string dt, .int .i64 z, .slice none 0 0]) ti71 pl71 (pc rfl (cel1 rfl) (pc rfl rfl pn)) rfl) (ef0 (xst (vs := [.int .i64 1, .int .i64 k, .string nm, .string dt, .int .i64 z, .slice none 0 0]) ti71 rfl rfl rfl b4 rfl (Nat.le_of_ble_eq_true rfl) (one_all rfl)) ?_)))))
  rintro w5 ⟨-, b5, c5⟩
  have H3 : Hold w [] w5 [rB g1 62 ([.int .i64 k, .string nm, .string dt, .int .i64 z]), rB g2 71 ([.int .i64 1, .int .i64 k, .string nm, .string dt, .int .i64 z, .slice none 0 0])] := Hold.setB H2 1 rfl b5 c5 rfl
  clear H2
  clear b5 c5
  refine re (rt ?_)
  have b6 : B w5 g2 71 ([.int .i64 1, .int .i64 k, .string nm, .string dt, .int .i64 z, .slice none 0 0]) := Hold.blk H3 1 rfl
  exact finc  (cs := [.int .i64 1, .int .i64 k, .string nm, .string dt, .int .i64 z, .slice none 0 0]) Tryd.results102 Tryd.underlying71 rfl ti71 rfl b6 rfl  ⟨rfl, Hold.ch H3⟩
theorem impl_call {w : World} {k z : Int} {nm dt : ByteArray} : Ret Tryd.prog 125 #[.agg #[.int .i64 k, .string nm, .string dt, .int .i64 z]] w (fun r w' => r = .tuple #[lineVal (mkC k nm dt z) (.slice none 0 0), .bool true] ∧ Ch [] w w') := by
  refine enter Tryd.func125 rfl Tryd.ntmps125 (by rfl) (by rfl) ?_
  have H0 : Hold w [] w [] := Hold.start w
  refine sq (rg (ef (xbx (t := 62) rfl rfl) ?_))
  rintro _ w1 ⟨g1, e1, rfl, -, b1, c1⟩
  have H1 : Hold w [] w1 [rB g1 62 ([.int .i64 k, .string nm, .string dt, .int .i64 z])] := Hold.newB H0 e1 b1 c1
  clear H0
  clear e1 b1 c1
  refine ef (xal ti71) ?_
  rintro _ w2 ⟨g2, e2, rfl, -, b2, c2⟩
  have H2 : Hold w [] w2 [rB g1 62 ([.int .i64 k, .string nm, .string dt, .int .i64 z]), rB g2 71 ([.int .i64 0, .int .i64 0, .string ⟨#[]⟩, .string ⟨#[]⟩, .int .i64 0, .slice none 0 0])] := Hold.newB H1 e2 b2 c2
  clear H1
  clear e2 b2 c2
  have b3 : B w2 g1 62 ([.int .i64 k, .string nm, .string dt, .int .i64 z]) := Hold.blk H2 0 rfl
  have b4 : B w2 g2 71 ([.int .i64 0, .int .i64 0, .string ⟨#[]⟩, .string ⟨#[]⟩, .int .i64 0, .slice none 0 0]) := Hold.blk H2 1 rfl
  refine r (sa rfl) (re (sq (rg (r (lab [.int .i64 k, .string nm, .string dt, .int .i64 z] Tryd.underlying62 rfl ti62 rfl b3 rfl rfl) (r (bd (r := [.int .i64 1, .int .i64 k, .string nm, .string dt, .int .i64 z, .slice none 0 0]) ti71 pl71 (pc rfl (cel1 rfl) (pc rfl rfl pn)) rfl) (ef0 (xst (vs := [.int .i64 1, .int .i64 k, .string nm, .string dt, .int .i64 z, .slice none 0 0]) ti71 rfl rfl rfl b4 rfl (Nat.le_of_ble_eq_true rfl) (one_all rfl)) ?_))))))
  rintro w5 ⟨-, b5, c5⟩
  have H3 : Hold w [] w5 [rB g1 62 ([.int .i64 k, .string nm, .string dt, .int .i64 z]), rB g2 71 ([.int .i64 1, .int .i64 k, .string nm, .string dt, .int .i64 z, .slice none 0 0])] := Hold.setB H2 1 rfl b5 c5 rfl
  clear H2
  clear b5 c5
  refine r (sa rfl) (re (rt ?_))
  have b6 : B w5 g2 71 ([.int .i64 1, .int .i64 k, .string nm, .string dt, .int .i64 z, .slice none 0 0]) := Hold.blk H3 1 rfl
  exact finct (v' := .bool true) (cs := [.int .i64 1, .int .i64 k, .string nm, .string dt, .int .i64 z, .slice none 0 0]) Tryd.results125 Tryd.underlying71 rfl ti71 rfl b6 rfl rfl ⟨rfl, Hold.ch H3⟩
theorem l6CallLine {w : World} {F : List Nat} {v : Value} {fs : List ByteArray} (hx : kStr.R w F v fs) (lx : fs.length ≤ 1000000) (hp : 0 < fs.length) : Ret Tryd.prog 75 #[v] w (fun r w' => r = lineVal (callV fs) (.slice none 0 0) ∧ Ch [] w w') := by
  refine enter Tryd.func75 rfl Tryd.ntmps75 (by rfl) (by rfl) ?_
  have H0 : Hold w [] w [] := Hold.start w
  refine sq (rg (ef (xal ti71) ?_))
  rintro _ w1 ⟨g2, e1, rfl, -, b1, c1⟩
  have H1 : Hold w [] w1 [rB g2 71 ([.int .i64 0, .int .i64 0, .string ⟨#[]⟩, .string ⟨#[]⟩, .int .i64 0, .slice none 0 0])] := Hold.newB H0 e1 b1 c1
  clear H0
  clear e1 b1 c1
  refine re (sq ?_)
  refine jn (α := Unit) (fun _ ρ w' => ρ 0 = v ∧ ρ 2 = .pointer (some ⟨g2, 0, none⟩) ∧ Hold w [] w' [rB g2 71 ([.int .i64 0, .int .i64 0, .string ⟨#[]⟩, .string ⟨#[]⟩, .int .i64 0, .slice none 0 0])] ∧ ¬ (fs.length = 3 ∧ gF fs 0 = kWrite)) ?_ ?_
  · refine sq (rg (r (mv rfl) (r (ln Tryd.underlying54 rfl ((hx.t (Hold.ch H1)))) (r (bi rfl rfl rfl) (r (mv rfl) ?_)))))
    refine sp 9 rfl (fun hl => ?_) (fun hl => ?_)
    · refine gy rfl rfl rfl (r (mv rfl) (gy rfl rfl rfl ?_))
      obtain ⟨c11_2, ad11_2, k11_2, e11_2, p11_2⟩ := Kd.R.place hx 0 ((by omega))
      refine r (ix (j := 0) Tryd.underlying54 ti9 e11_2 rfl ((by omega))) (gy rfl rfl rfl (r (Rn.cast (v' := .string (gF fs 0)) (ld Tryd.underlying9 rfl rfl (Ch.cell (Hold.ch H1) p11_2.cell)) (congrArg Value.string (gd _))) (gy rfl rfl rfl (r (seq rfl rfl) (r (pk rfl rfl) (re ?_))))))
      refine cp rfl (fun hk => ?_) (fun hk => ?_)
      · refine sq ?_
        refine gen (fun ρ => ρ 0 = v ∧ ρ 2 = .pointer (some ⟨g2, 0, none⟩) ∧ True) ⟨rfl, rfl, trivial⟩ ?_
        rintro ρ ⟨z0, z2, -⟩
        refine rg (r (mv z0) ?_)
        obtain ⟨c16_3, ad16_3, k16_3, e16_3, p16_3⟩ := Kd.R.place hx 2 ((by omega))
        refine r (ix (j := 2) Tryd.underlying54 ti9 e16_3 rfl ((by omega))) (r (Rn.cast (v' := .string (gF fs 2)) (ld Tryd.underlying9 rfl rfl (Ch.cell (Hold.ch H1) p16_3.cell)) (congrArg Value.string (gd _))) (r (sa rfl) (re (sq (sq (rg (r (mv rfl) (r (seq rfl rfl) (re ?_)))))))))
        refine cp rfl (fun hd => ?_) (fun hd => ?_)
        · refine rg (r (sa rfl) (re (sq (rg (r (mv z0) ?_)))))
          obtain ⟨c21_4, ad21_4, k21_4, e21_4, p21_4⟩ := Kd.R.place hx 1 ((by omega))
          refine r (ix (j := 1) Tryd.underlying54 ti9 e21_4 rfl ((by omega))) (r (Rn.cast (v' := .string (gF fs 1)) (ld Tryd.underlying9 rfl rfl (Ch.cell (Hold.ch H1) p21_4.cell)) (congrArg Value.string (gd _))) (r (mv rfl) (r (bd (r := [.int .i64 1, .string (gF fs 1), .string (⟨#[]⟩ : ByteArray), .int .i64 0]) ti62 pl62 (pc rfl (cel1 rfl) (pc rfl (cel1 rfl) (pc rfl (cel1 rfl) pn))) rfl) (cl go102 (l6Make) (ac rfl an) ?_))))
          rintro r wm5 ⟨rfl, cm5⟩
          have H2 : Hold w [] wm5 [rB g2 71 ([.int .i64 0, .int .i64 0, .string ⟨#[]⟩, .string ⟨#[]⟩, .int .i64 0, .slice none 0 0])] := Hold.t H1 cm5
          clear H1
          clear cm5
          have b7 : B wm5 g2 71 ([.int .i64 0, .int .i64 0, .string ⟨#[]⟩, .string ⟨#[]⟩, .int .i64 0, .slice none 0 0]) := Hold.blk H2 0 rfl
          refine ef0 (xst (vs := [.int .i64 1, .int .i64 1, .string (gF fs 1), .string (⟨#[]⟩ : ByteArray), .int .i64 0, .slice none 0 0]) ti71 z2 rfl rfl b7 rfl (Nat.le_of_ble_eq_true rfl) (one_all rfl)) ?_
          rintro w8 ⟨-, b8, c8⟩
          have H3 : Hold w [] w8 [rB g2 71 ([.int .i64 1, .int .i64 1, .string (gF fs 1), .string (⟨#[]⟩ : ByteArray), .int .i64 0, .slice none 0 0])] := Hold.setB H2 0 rfl b8 c8 rfl
          clear H2
          clear b8 c8
          refine re (rt ?_)
          have b9 : B w8 g2 71 ([.int .i64 1, .int .i64 1, .string (gF fs 1), .string (⟨#[]⟩ : ByteArray), .int .i64 0, .slice none 0 0]) := Hold.blk H3 0 rfl
          exact finc  (cs := [.int .i64 1, .int .i64 1, .string (gF fs 1), .string (⟨#[]⟩ : ByteArray), .int .i64 0, .slice none 0 0]) Tryd.results75 Tryd.underlying71 rfl ti71 z2 b9 rfl  ⟨congrArg (fun l => lineVal l (.slice none 0 0)) (show mkC 1 (gF fs 1) bE 0 = callV fs from by unfold callV; rw [if_pos ⟨by omega, hk⟩, dash, if_pos hd]), Hold.ch H3⟩
        · refine sk (sq (rg (r (mv z0) ?_)))
          obtain ⟨c21_4, ad21_4, k21_4, e21_4, p21_4⟩ := Kd.R.place hx 1 ((by omega))
          refine r (ix (j := 1) Tryd.underlying54 ti9 e21_4 rfl ((by omega))) (r (Rn.cast (v' := .string (gF fs 1)) (ld Tryd.underlying9 rfl rfl (Ch.cell (Hold.ch H1) p21_4.cell)) (congrArg Value.string (gd _))) (r (mv rfl) (r (bd (r := [.int .i64 1, .string (gF fs 1), .string (gF fs 2), .int .i64 0]) ti62 pl62 (pc rfl (cel1 rfl) (pc rfl (cel1 rfl) (pc rfl (cel1 rfl) pn))) rfl) (cl go102 (l6Make) (ac rfl an) ?_))))
          rintro r wm5 ⟨rfl, cm5⟩
          have H2 : Hold w [] wm5 [rB g2 71 ([.int .i64 0, .int .i64 0, .string ⟨#[]⟩, .string ⟨#[]⟩, .int .i64 0, .slice none 0 0])] := Hold.t H1 cm5
          clear H1
          clear cm5
          have b7 : B wm5 g2 71 ([.int .i64 0, .int .i64 0, .string ⟨#[]⟩, .string ⟨#[]⟩, .int .i64 0, .slice none 0 0]) := Hold.blk H2 0 rfl
          refine ef0 (xst (vs := [.int .i64 1, .int .i64 1, .string (gF fs 1), .string (gF fs 2), .int .i64 0, .slice none 0 0]) ti71 z2 rfl rfl b7 rfl (Nat.le_of_ble_eq_true rfl) (one_all rfl)) ?_
          rintro w8 ⟨-, b8, c8⟩
          have H3 : Hold w [] w8 [rB g2 71 ([.int .i64 1, .int .i64 1, .string (gF fs 1), .string (gF fs 2), .int .i64 0, .slice none 0 0])] := Hold.setB H2 0 rfl b8 c8 rfl
          clear H2
          clear b8 c8
          refine re (rt ?_)
          have b9 : B w8 g2 71 ([.int .i64 1, .int .i64 1, .string (gF fs 1), .string (gF fs 2), .int .i64 0, .slice none 0 0]) := Hold.blk H3 0 rfl
          exact finc  (cs := [.int .i64 1, .int .i64 1, .string (gF fs 1), .string (gF fs 2), .int .i64 0, .slice none 0 0]) Tryd.results75 Tryd.underlying71 rfl ti71 z2 b9 rfl  ⟨congrArg (fun l => lineVal l (.slice none 0 0)) (show mkC 1 (gF fs 1) (gF fs 2) 0 = callV fs from by unfold callV; rw [if_pos ⟨by omega, hk⟩, dash, if_neg hd]), Hold.ch H3⟩
      · refine sk ?_
        exact je () ⟨rfl, rfl, H1, (fun g => hk g.2)⟩
    · refine gn rfl rfl rfl (gn rfl rfl rfl (gn rfl rfl rfl (gn rfl rfl rfl (r (pk rfl rfl) (re (cf rfl (sk ?_)))))))
      exact je () ⟨rfl, rfl, H1, (fun g => by omega)⟩
  · rintro _ ρ w561 ⟨y0, y2, H61, hN0⟩
    clear H1
    refine sq ?_
    refine jn (α := Unit) (fun _ ρ w' => ρ 0 = v ∧ ρ 2 = .pointer (some ⟨g2, 0, none⟩) ∧ Hold w [] w' [rB g2 71 ([.int .i64 0, .int .i64 0, .string ⟨#[]⟩, .string ⟨#[]⟩, .int .i64 0, .slice none 0 0])] ∧ ¬ (fs.length = 2 ∧ gF fs 0 = kRead)) ?_ ?_
    · refine sq (rg (r (mv y0) (r (ln Tryd.underlying54 rfl ((hx.t (Hold.ch H61)))) (r (bi rfl rfl rfl) (r (mv rfl) ?_)))))
      refine sp 29 rfl (fun hl => ?_) (fun hl => ?_)
      · refine gy rfl rfl rfl (r (mv y0) (gy rfl rfl rfl ?_))
        obtain ⟨c31_302, ad31_302, k31_302, e31_302, p31_302⟩ := Kd.R.place hx 0 ((by omega))
        refine r (ix (j := 0) Tryd.underlying54 ti9 e31_302 rfl ((by omega))) (gy rfl rfl rfl (r (Rn.cast (v' := .string (gF fs 0)) (ld Tryd.underlying9 rfl rfl (Ch.cell (Hold.ch H61) p31_302.cell)) (congrArg Value.string (gd _))) (gy rfl rfl rfl (r (seq rfl rfl) (r (pk rfl rfl) (re ?_))))))
        refine cp rfl (fun hk => ?_) (fun hk => ?_)
        · refine sq (rg (r (mv y0) ?_))
          obtain ⟨c36_303, ad36_303, k36_303, e36_303, p36_303⟩ := Kd.R.place hx 1 ((by omega))
          refine r (ix (j := 1) Tryd.underlying54 ti9 e36_303 rfl ((by omega))) (r (Rn.cast (v' := .string (gF fs 1)) (ld Tryd.underlying9 rfl rfl (Ch.cell (Hold.ch H61) p36_303.cell)) (congrArg Value.string (gd _))) (r (bd (r := [.int .i64 2, .string (gF fs 1), .string ⟨#[]⟩, .int .i64 0]) ti62 pl62 (pc rfl (cel1 rfl) (pc rfl (cel1 rfl) pn)) rfl) (cl go102 (l6Make) (ac rfl an) ?_)))
          rintro r wm304 ⟨rfl, cm304⟩
          have H62 : Hold w [] wm304 [rB g2 71 ([.int .i64 0, .int .i64 0, .string ⟨#[]⟩, .string ⟨#[]⟩, .int .i64 0, .slice none 0 0])] := Hold.t H61 cm304
          clear H61
          clear cm304
          have b306 : B wm304 g2 71 ([.int .i64 0, .int .i64 0, .string ⟨#[]⟩, .string ⟨#[]⟩, .int .i64 0, .slice none 0 0]) := Hold.blk H62 0 rfl
          refine ef0 (xst (vs := [.int .i64 1, .int .i64 2, .string (gF fs 1), .string ⟨#[]⟩, .int .i64 0, .slice none 0 0]) ti71 y2 rfl rfl b306 rfl (Nat.le_of_ble_eq_true rfl) (one_all rfl)) ?_
          rintro w307 ⟨-, b307, c307⟩
          have H63 : Hold w [] w307 [rB g2 71 ([.int .i64 1, .int .i64 2, .string (gF fs 1), .string ⟨#[]⟩, .int .i64 0, .slice none 0 0])] := Hold.setB H62 0 rfl b307 c307 rfl
          clear H62
          clear b307 c307
          refine re (rt ?_)
          have b308 : B w307 g2 71 ([.int .i64 1, .int .i64 2, .string (gF fs 1), .string ⟨#[]⟩, .int .i64 0, .slice none 0 0]) := Hold.blk H63 0 rfl
          exact finc  (cs := [.int .i64 1, .int .i64 2, .string (gF fs 1), .string ⟨#[]⟩, .int .i64 0, .slice none 0 0]) Tryd.results75 Tryd.underlying71 rfl ti71 y2 b308 rfl  ⟨congrArg (fun l => lineVal l (.slice none 0 0)) (show mkC 2 (gF fs 1) bE 0 = callV fs from by unfold callV; rw [if_neg hN0, if_pos ⟨by omega, hk⟩]), Hold.ch H63⟩
        · refine sk ?_
          exact je () ⟨y0, y2, H61, (fun g => hk g.2)⟩
      · refine gn rfl rfl rfl (gn rfl rfl rfl (gn rfl rfl rfl (gn rfl rfl rfl (r (pk rfl rfl) (re (cf rfl (sk ?_)))))))
        exact je () ⟨y0, y2, H61, (fun g => by omega)⟩
    · rintro _ ρ w621 ⟨y0, y2, H121, hN1⟩
      clear H61
      refine sq ?_
      refine jn (α := Unit) (fun _ ρ w' => ρ 0 = v ∧ ρ 2 = .pointer (some ⟨g2, 0, none⟩) ∧ Hold w [] w' [rB g2 71 ([.int .i64 0, .int .i64 0, .string ⟨#[]⟩, .string ⟨#[]⟩, .int .i64 0, .slice none 0 0])] ∧ ¬ (fs.length = 2 ∧ gF fs 0 = kDel)) ?_ ?_
      · refine sq (rg (r (mv y0) (r (ln Tryd.underlying54 rfl ((hx.t (Hold.ch H121)))) (r (bi rfl rfl rfl) (r (mv rfl) ?_)))))
        refine sp 43 rfl (fun hl => ?_) (fun hl => ?_)
        · refine gy rfl rfl rfl (r (mv y0) (gy rfl rfl rfl ?_))
          obtain ⟨c45_602, ad45_602, k45_602, e45_602, p45_602⟩ := Kd.R.place hx 0 ((by omega))
          refine r (ix (j := 0) Tryd.underlying54 ti9 e45_602 rfl ((by omega))) (gy rfl rfl rfl (r (Rn.cast (v' := .string (gF fs 0)) (ld Tryd.underlying9 rfl rfl (Ch.cell (Hold.ch H121) p45_602.cell)) (congrArg Value.string (gd _))) (gy rfl rfl rfl (r (seq rfl rfl) (r (pk rfl rfl) (re ?_))))))
          refine cp rfl (fun hk => ?_) (fun hk => ?_)
          · refine sq (rg (r (mv y0) ?_))
            obtain ⟨c50_603, ad50_603, k50_603, e50_603, p50_603⟩ := Kd.R.place hx 1 ((by omega))
            refine r (ix (j := 1) Tryd.underlying54 ti9 e50_603 rfl ((by omega))) (r (Rn.cast (v' := .string (gF fs 1)) (ld Tryd.underlying9 rfl rfl (Ch.cell (Hold.ch H121) p50_603.cell)) (congrArg Value.string (gd _))) (r (bd (r := [.int .i64 4, .string (gF fs 1), .string ⟨#[]⟩, .int .i64 0]) ti62 pl62 (pc rfl (cel1 rfl) (pc rfl (cel1 rfl) pn)) rfl) (cl go102 (l6Make) (ac rfl an) ?_)))
            rintro r wm604 ⟨rfl, cm604⟩
            have H122 : Hold w [] wm604 [rB g2 71 ([.int .i64 0, .int .i64 0, .string ⟨#[]⟩, .string ⟨#[]⟩, .int .i64 0, .slice none 0 0])] := Hold.t H121 cm604
            clear H121
            clear cm604
            have b606 : B wm604 g2 71 ([.int .i64 0, .int .i64 0, .string ⟨#[]⟩, .string ⟨#[]⟩, .int .i64 0, .slice none 0 0]) := Hold.blk H122 0 rfl
            refine ef0 (xst (vs := [.int .i64 1, .int .i64 4, .string (gF fs 1), .string ⟨#[]⟩, .int .i64 0, .slice none 0 0]) ti71 y2 rfl rfl b606 rfl (Nat.le_of_ble_eq_true rfl) (one_all rfl)) ?_
            rintro w607 ⟨-, b607, c607⟩
            have H123 : Hold w [] w607 [rB g2 71 ([.int .i64 1, .int .i64 4, .string (gF fs 1), .string ⟨#[]⟩, .int .i64 0, .slice none 0 0])] := Hold.setB H122 0 rfl b607 c607 rfl
            clear H122
            clear b607 c607
            refine re (rt ?_)
            have b608 : B w607 g2 71 ([.int .i64 1, .int .i64 4, .string (gF fs 1), .string ⟨#[]⟩, .int .i64 0, .slice none 0 0]) := Hold.blk H123 0 rfl
            exact finc  (cs := [.int .i64 1, .int .i64 4, .string (gF fs 1), .string ⟨#[]⟩, .int .i64 0, .slice none 0 0]) Tryd.results75 Tryd.underlying71 rfl ti71 y2 b608 rfl  ⟨congrArg (fun l => lineVal l (.slice none 0 0)) (show mkC 4 (gF fs 1) bE 0 = callV fs from by unfold callV; rw [if_neg hN0, if_neg hN1, if_pos ⟨by omega, hk⟩]), Hold.ch H123⟩
          · refine sk ?_
            exact je () ⟨y0, y2, H121, (fun g => hk g.2)⟩
        · refine gn rfl rfl rfl (gn rfl rfl rfl (gn rfl rfl rfl (gn rfl rfl rfl (r (pk rfl rfl) (re (cf rfl (sk ?_)))))))
          exact je () ⟨y0, y2, H121, (fun g => by omega)⟩
      · rintro _ ρ w681 ⟨y0, y2, H181, hN2⟩
        clear H121
        refine sq ?_
        refine jn (α := Unit) (fun _ ρ w' => ρ 0 = v ∧ ρ 2 = .pointer (some ⟨g2, 0, none⟩) ∧ Hold w [] w' [rB g2 71 ([.int .i64 0, .int .i64 0, .string ⟨#[]⟩, .string ⟨#[]⟩, .int .i64 0, .slice none 0 0])] ∧ ¬ (fs.length = 1 ∧ gF fs 0 = kList)) ?_ ?_
        · refine sq (rg (r (mv y0) (r (ln Tryd.underlying54 rfl ((hx.t (Hold.ch H181)))) (r (bi rfl rfl rfl) (r (mv rfl) ?_)))))
          refine sp 57 rfl (fun hl => ?_) (fun hl => ?_)
          · refine gy rfl rfl rfl (r (mv y0) (gy rfl rfl rfl ?_))
            obtain ⟨c59_902, ad59_902, k59_902, e59_902, p59_902⟩ := Kd.R.place hx 0 ((by omega))
            refine r (ix (j := 0) Tryd.underlying54 ti9 e59_902 rfl ((by omega))) (gy rfl rfl rfl (r (Rn.cast (v' := .string (gF fs 0)) (ld Tryd.underlying9 rfl rfl (Ch.cell (Hold.ch H181) p59_902.cell)) (congrArg Value.string (gd _))) (gy rfl rfl rfl (r (seq rfl rfl) (r (pk rfl rfl) (re ?_))))))
            refine cp rfl (fun hk => ?_) (fun hk => ?_)
            · refine sq (rg (r (bd (r := [.int .i64 5, .string ⟨#[]⟩, .string ⟨#[]⟩, .int .i64 0]) ti62 pl62 (pc rfl (cel1 rfl) pn) rfl) (cl go102 (l6Make) (ac rfl an) ?_)))
              rintro r wm903 ⟨rfl, cm903⟩
              have H182 : Hold w [] wm903 [rB g2 71 ([.int .i64 0, .int .i64 0, .string ⟨#[]⟩, .string ⟨#[]⟩, .int .i64 0, .slice none 0 0])] := Hold.t H181 cm903
              clear H181
              clear cm903
              have b905 : B wm903 g2 71 ([.int .i64 0, .int .i64 0, .string ⟨#[]⟩, .string ⟨#[]⟩, .int .i64 0, .slice none 0 0]) := Hold.blk H182 0 rfl
              refine ef0 (xst (vs := [.int .i64 1, .int .i64 5, .string ⟨#[]⟩, .string ⟨#[]⟩, .int .i64 0, .slice none 0 0]) ti71 y2 rfl rfl b905 rfl (Nat.le_of_ble_eq_true rfl) (one_all rfl)) ?_
              rintro w906 ⟨-, b906, c906⟩
              have H183 : Hold w [] w906 [rB g2 71 ([.int .i64 1, .int .i64 5, .string ⟨#[]⟩, .string ⟨#[]⟩, .int .i64 0, .slice none 0 0])] := Hold.setB H182 0 rfl b906 c906 rfl
              clear H182
              clear b906 c906
              refine re (rt ?_)
              have b907 : B w906 g2 71 ([.int .i64 1, .int .i64 5, .string ⟨#[]⟩, .string ⟨#[]⟩, .int .i64 0, .slice none 0 0]) := Hold.blk H183 0 rfl
              exact finc  (cs := [.int .i64 1, .int .i64 5, .string ⟨#[]⟩, .string ⟨#[]⟩, .int .i64 0, .slice none 0 0]) Tryd.results75 Tryd.underlying71 rfl ti71 y2 b907 rfl  ⟨congrArg (fun l => lineVal l (.slice none 0 0)) (show mkC 5 bE bE 0 = callV fs from by unfold callV; rw [if_neg hN0, if_neg hN1, if_neg hN2, if_pos ⟨by omega, hk⟩]), Hold.ch H183⟩
            · refine sk ?_
              exact je () ⟨y0, y2, H181, (fun g => hk g.2)⟩
          · refine gn rfl rfl rfl (gn rfl rfl rfl (gn rfl rfl rfl (gn rfl rfl rfl (r (pk rfl rfl) (re (cf rfl (sk ?_)))))))
            exact je () ⟨y0, y2, H181, (fun g => by omega)⟩
        · rintro _ ρ w741 ⟨y0, y2, H241, hN3⟩
          clear H181
          refine sq ?_
          refine jn (α := Unit) (fun _ ρ w' => ρ 0 = v ∧ ρ 2 = .pointer (some ⟨g2, 0, none⟩) ∧ Hold w [] w' [rB g2 71 ([.int .i64 0, .int .i64 0, .string ⟨#[]⟩, .string ⟨#[]⟩, .int .i64 0, .slice none 0 0])] ∧ ¬ (fs.length = 1 ∧ gF fs 0 = kSync)) ?_ ?_
          · refine sq (rg (r (mv y0) (r (ln Tryd.underlying54 rfl ((hx.t (Hold.ch H241)))) (r (bi rfl rfl rfl) (r (mv rfl) ?_)))))
            refine sp 68 rfl (fun hl => ?_) (fun hl => ?_)
            · refine gy rfl rfl rfl (r (mv y0) (gy rfl rfl rfl ?_))
              obtain ⟨c70_1202, ad70_1202, k70_1202, e70_1202, p70_1202⟩ := Kd.R.place hx 0 ((by omega))
              refine r (ix (j := 0) Tryd.underlying54 ti9 e70_1202 rfl ((by omega))) (gy rfl rfl rfl (r (Rn.cast (v' := .string (gF fs 0)) (ld Tryd.underlying9 rfl rfl (Ch.cell (Hold.ch H241) p70_1202.cell)) (congrArg Value.string (gd _))) (gy rfl rfl rfl (r (seq rfl rfl) (r (pk rfl rfl) (re ?_))))))
              refine cp rfl (fun hk => ?_) (fun hk => ?_)
              · refine sq (rg (r (bd (r := [.int .i64 6, .string ⟨#[]⟩, .string ⟨#[]⟩, .int .i64 0]) ti62 pl62 (pc rfl (cel1 rfl) pn) rfl) (cl go102 (l6Make) (ac rfl an) ?_)))
                rintro r wm1203 ⟨rfl, cm1203⟩
                have H242 : Hold w [] wm1203 [rB g2 71 ([.int .i64 0, .int .i64 0, .string ⟨#[]⟩, .string ⟨#[]⟩, .int .i64 0, .slice none 0 0])] := Hold.t H241 cm1203
                clear H241
                clear cm1203
                have b1205 : B wm1203 g2 71 ([.int .i64 0, .int .i64 0, .string ⟨#[]⟩, .string ⟨#[]⟩, .int .i64 0, .slice none 0 0]) := Hold.blk H242 0 rfl
                refine ef0 (xst (vs := [.int .i64 1, .int .i64 6, .string ⟨#[]⟩, .string ⟨#[]⟩, .int .i64 0, .slice none 0 0]) ti71 y2 rfl rfl b1205 rfl (Nat.le_of_ble_eq_true rfl) (one_all rfl)) ?_
                rintro w1206 ⟨-, b1206, c1206⟩
                have H243 : Hold w [] w1206 [rB g2 71 ([.int .i64 1, .int .i64 6, .string ⟨#[]⟩, .string ⟨#[]⟩, .int .i64 0, .slice none 0 0])] := Hold.setB H242 0 rfl b1206 c1206 rfl
                clear H242
                clear b1206 c1206
                refine re (rt ?_)
                have b1207 : B w1206 g2 71 ([.int .i64 1, .int .i64 6, .string ⟨#[]⟩, .string ⟨#[]⟩, .int .i64 0, .slice none 0 0]) := Hold.blk H243 0 rfl
                exact finc  (cs := [.int .i64 1, .int .i64 6, .string ⟨#[]⟩, .string ⟨#[]⟩, .int .i64 0, .slice none 0 0]) Tryd.results75 Tryd.underlying71 rfl ti71 y2 b1207 rfl  ⟨congrArg (fun l => lineVal l (.slice none 0 0)) (show mkC 6 bE bE 0 = callV fs from by unfold callV; rw [if_neg hN0, if_neg hN1, if_neg hN2, if_neg hN3, if_pos ⟨by omega, hk⟩]), Hold.ch H243⟩
              · refine sk ?_
                exact je () ⟨y0, y2, H241, (fun g => hk g.2)⟩
            · refine gn rfl rfl rfl (gn rfl rfl rfl (gn rfl rfl rfl (gn rfl rfl rfl (r (pk rfl rfl) (re (cf rfl (sk ?_)))))))
              exact je () ⟨y0, y2, H241, (fun g => by omega)⟩
          · rintro _ ρ w801 ⟨y0, y2, H301, hN4⟩
            clear H241
            refine sq ?_
            refine jn (α := Unit) (fun _ ρ w' => ρ 0 = v ∧ ρ 2 = .pointer (some ⟨g2, 0, none⟩) ∧ Hold w [] w' [rB g2 71 ([.int .i64 0, .int .i64 0, .string ⟨#[]⟩, .string ⟨#[]⟩, .int .i64 0, .slice none 0 0])] ∧ ¬ (fs.length = 1 ∧ gF fs 0 = kClean)) ?_ ?_
            · refine sq (rg (r (mv y0) (r (ln Tryd.underlying54 rfl ((hx.t (Hold.ch H301)))) (r (bi rfl rfl rfl) (r (mv rfl) ?_)))))
              refine sp 79 rfl (fun hl => ?_) (fun hl => ?_)
              · refine gy rfl rfl rfl (r (mv y0) (gy rfl rfl rfl ?_))
                obtain ⟨c81_1502, ad81_1502, k81_1502, e81_1502, p81_1502⟩ := Kd.R.place hx 0 ((by omega))
                refine r (ix (j := 0) Tryd.underlying54 ti9 e81_1502 rfl ((by omega))) (gy rfl rfl rfl (r (Rn.cast (v' := .string (gF fs 0)) (ld Tryd.underlying9 rfl rfl (Ch.cell (Hold.ch H301) p81_1502.cell)) (congrArg Value.string (gd _))) (gy rfl rfl rfl (r (seq rfl rfl) (r (pk rfl rfl) (re ?_))))))
                refine cp rfl (fun hk => ?_) (fun hk => ?_)
                · refine sq (rg (r (bd (r := [.int .i64 7, .string ⟨#[]⟩, .string ⟨#[]⟩, .int .i64 0]) ti62 pl62 (pc rfl (cel1 rfl) pn) rfl) (cl go102 (l6Make) (ac rfl an) ?_)))
                  rintro r wm1503 ⟨rfl, cm1503⟩
                  have H302 : Hold w [] wm1503 [rB g2 71 ([.int .i64 0, .int .i64 0, .string ⟨#[]⟩, .string ⟨#[]⟩, .int .i64 0, .slice none 0 0])] := Hold.t H301 cm1503
                  clear H301
                  clear cm1503
                  have b1505 : B wm1503 g2 71 ([.int .i64 0, .int .i64 0, .string ⟨#[]⟩, .string ⟨#[]⟩, .int .i64 0, .slice none 0 0]) := Hold.blk H302 0 rfl
                  refine ef0 (xst (vs := [.int .i64 1, .int .i64 7, .string ⟨#[]⟩, .string ⟨#[]⟩, .int .i64 0, .slice none 0 0]) ti71 y2 rfl rfl b1505 rfl (Nat.le_of_ble_eq_true rfl) (one_all rfl)) ?_
                  rintro w1506 ⟨-, b1506, c1506⟩
                  have H303 : Hold w [] w1506 [rB g2 71 ([.int .i64 1, .int .i64 7, .string ⟨#[]⟩, .string ⟨#[]⟩, .int .i64 0, .slice none 0 0])] := Hold.setB H302 0 rfl b1506 c1506 rfl
                  clear H302
                  clear b1506 c1506
                  refine re (rt ?_)
                  have b1507 : B w1506 g2 71 ([.int .i64 1, .int .i64 7, .string ⟨#[]⟩, .string ⟨#[]⟩, .int .i64 0, .slice none 0 0]) := Hold.blk H303 0 rfl
                  exact finc  (cs := [.int .i64 1, .int .i64 7, .string ⟨#[]⟩, .string ⟨#[]⟩, .int .i64 0, .slice none 0 0]) Tryd.results75 Tryd.underlying71 rfl ti71 y2 b1507 rfl  ⟨congrArg (fun l => lineVal l (.slice none 0 0)) (show mkC 7 bE bE 0 = callV fs from by unfold callV; rw [if_neg hN0, if_neg hN1, if_neg hN2, if_neg hN3, if_neg hN4, if_pos ⟨by omega, hk⟩]), Hold.ch H303⟩
                · refine sk ?_
                  exact je () ⟨y0, y2, H301, (fun g => hk g.2)⟩
              · refine gn rfl rfl rfl (gn rfl rfl rfl (gn rfl rfl rfl (gn rfl rfl rfl (r (pk rfl rfl) (re (cf rfl (sk ?_)))))))
                exact je () ⟨y0, y2, H301, (fun g => by omega)⟩
            · rintro _ ρ w861 ⟨y0, y2, H361, hN5⟩
              clear H301
              refine sq ?_
              refine jn (α := Unit) (fun _ ρ w' => ρ 0 = v ∧ ρ 2 = .pointer (some ⟨g2, 0, none⟩) ∧ Hold w [] w' [rB g2 71 ([.int .i64 0, .int .i64 0, .string ⟨#[]⟩, .string ⟨#[]⟩, .int .i64 0, .slice none 0 0])] ∧ ¬ (fs.length = 1 ∧ gF fs 0 = kStat)) ?_ ?_
              · refine sq (rg (r (mv y0) (r (ln Tryd.underlying54 rfl ((hx.t (Hold.ch H361)))) (r (bi rfl rfl rfl) (r (mv rfl) ?_)))))
                refine sp 90 rfl (fun hl => ?_) (fun hl => ?_)
                · refine gy rfl rfl rfl (r (mv y0) (gy rfl rfl rfl ?_))
                  obtain ⟨c92_1802, ad92_1802, k92_1802, e92_1802, p92_1802⟩ := Kd.R.place hx 0 ((by omega))
                  refine r (ix (j := 0) Tryd.underlying54 ti9 e92_1802 rfl ((by omega))) (gy rfl rfl rfl (r (Rn.cast (v' := .string (gF fs 0)) (ld Tryd.underlying9 rfl rfl (Ch.cell (Hold.ch H361) p92_1802.cell)) (congrArg Value.string (gd _))) (gy rfl rfl rfl (r (seq rfl rfl) (r (pk rfl rfl) (re ?_))))))
                  refine cp rfl (fun hk => ?_) (fun hk => ?_)
                  · refine sq (rg (r (bd (r := [.int .i64 8, .string ⟨#[]⟩, .string ⟨#[]⟩, .int .i64 0]) ti62 pl62 (pc rfl (cel1 rfl) pn) rfl) (cl go102 (l6Make) (ac rfl an) ?_)))
                    rintro r wm1803 ⟨rfl, cm1803⟩
                    have H362 : Hold w [] wm1803 [rB g2 71 ([.int .i64 0, .int .i64 0, .string ⟨#[]⟩, .string ⟨#[]⟩, .int .i64 0, .slice none 0 0])] := Hold.t H361 cm1803
                    clear H361
                    clear cm1803
                    have b1805 : B wm1803 g2 71 ([.int .i64 0, .int .i64 0, .string ⟨#[]⟩, .string ⟨#[]⟩, .int .i64 0, .slice none 0 0]) := Hold.blk H362 0 rfl
                    refine ef0 (xst (vs := [.int .i64 1, .int .i64 8, .string ⟨#[]⟩, .string ⟨#[]⟩, .int .i64 0, .slice none 0 0]) ti71 y2 rfl rfl b1805 rfl (Nat.le_of_ble_eq_true rfl) (one_all rfl)) ?_
                    rintro w1806 ⟨-, b1806, c1806⟩
                    have H363 : Hold w [] w1806 [rB g2 71 ([.int .i64 1, .int .i64 8, .string ⟨#[]⟩, .string ⟨#[]⟩, .int .i64 0, .slice none 0 0])] := Hold.setB H362 0 rfl b1806 c1806 rfl
                    clear H362
                    clear b1806 c1806
                    refine re (rt ?_)
                    have b1807 : B w1806 g2 71 ([.int .i64 1, .int .i64 8, .string ⟨#[]⟩, .string ⟨#[]⟩, .int .i64 0, .slice none 0 0]) := Hold.blk H363 0 rfl
                    exact finc  (cs := [.int .i64 1, .int .i64 8, .string ⟨#[]⟩, .string ⟨#[]⟩, .int .i64 0, .slice none 0 0]) Tryd.results75 Tryd.underlying71 rfl ti71 y2 b1807 rfl  ⟨congrArg (fun l => lineVal l (.slice none 0 0)) (show mkC 8 bE bE 0 = callV fs from by unfold callV; rw [if_neg hN0, if_neg hN1, if_neg hN2, if_neg hN3, if_neg hN4, if_neg hN5, if_pos ⟨by omega, hk⟩]), Hold.ch H363⟩
                  · refine sk ?_
                    exact je () ⟨y0, y2, H361, (fun g => hk g.2)⟩
                · refine gn rfl rfl rfl (gn rfl rfl rfl (gn rfl rfl rfl (gn rfl rfl rfl (r (pk rfl rfl) (re (cf rfl (sk ?_)))))))
                  exact je () ⟨y0, y2, H361, (fun g => by omega)⟩
              · rintro _ ρ w921 ⟨y0, y2, H421, hN6⟩
                clear H361
                refine sq (sq (rg (r (mv y0) (r (ln Tryd.underlying54 rfl ((hx.t (Hold.ch H421)))) (r (bi rfl rfl rfl) (re ?_))))))
                refine cp rfl (fun h3 => ?_) (fun h3 => ?_)
                · have b2102 : B w921 g2 71 ([.int .i64 0, .int .i64 0, .string ⟨#[]⟩, .string ⟨#[]⟩, .int .i64 0, .slice none 0 0]) := Hold.blk H421 0 rfl
                  refine sq (rg (r (bd (r := [.int .i64 0, .int .i64 0, .string ⟨#[]⟩, .string ⟨#[]⟩, .int .i64 0, .slice none 0 0]) ti71 pl71 pn rfl) (ef0 (xst (vs := [.int .i64 0, .int .i64 0, .string ⟨#[]⟩, .string ⟨#[]⟩, .int .i64 0, .slice none 0 0]) ti71 y2 rfl rfl b2102 rfl (Nat.le_of_ble_eq_true rfl) (one_all rfl)) ?_)))
                  rintro w2103 ⟨-, b2103, c2103⟩
                  have H422 : Hold w [] w2103 [rB g2 71 ([.int .i64 0, .int .i64 0, .string ⟨#[]⟩, .string ⟨#[]⟩, .int .i64 0, .slice none 0 0])] := Hold.setB H421 0 rfl b2103 c2103 rfl
                  clear H421
                  clear b2103 c2103
                  refine re (rt ?_)
                  have b2104 : B w2103 g2 71 ([.int .i64 0, .int .i64 0, .string ⟨#[]⟩, .string ⟨#[]⟩, .int .i64 0, .slice none 0 0]) := Hold.blk H422 0 rfl
                  exact finc  (cs := [.int .i64 0, .int .i64 0, .string ⟨#[]⟩, .string ⟨#[]⟩, .int .i64 0, .slice none 0 0]) Tryd.results75 Tryd.underlying71 rfl ti71 y2 b2104 rfl  ⟨congrArg (fun l => lineVal l (.slice none 0 0)) (show badL = callV fs from by unfold callV; rw [if_neg hN0, if_neg hN1, if_neg hN2, if_neg hN3, if_neg hN4, if_neg hN5, if_neg hN6, if_pos (show fs.length < 3 by omega)]), Hold.ch H422⟩
                · have hdl : (fs.drop 2).length = fs.length - 2 := List.length_drop ..
                  obtain ⟨F2103, us2103, R2103⟩ := Kd.R.sl (hx.t (Hold.ch H421)) (2) (fs.length) (by first | omega | (simp; omega)) (by first | omega | (simp; omega))
                  have e2103 : (fs.take fs.length).drop 2 = fs.drop 2 := by first | (rw [List.take_length, List.drop_drop]; done) | (rw [List.drop_take]; done) | (simp; done) | (rw [List.drop_take]; congr 1; omega) | (rw [List.take_length, List.drop_drop]; congr 1; omega)
                  rw [e2103] at R2103
                  refine sk (sq (rg (r (mv y0) (r (slrl (2) Tryd.underlying54 ti9 (hx.t (Hold.ch H421)) rfl rfl (by omega)) (cl go76 (l6Nums R2103 (by rw [hdl]; omega)) (ac rfl an) ?_)))))
                  rintro r wn ⟨u, ys, rfl, hys, Hn⟩
                  have H422 : Hold w [] wn [rB g2 71 ([.int .i64 0, .int .i64 0, .string ⟨#[]⟩, .string ⟨#[]⟩, .int .i64 0, .slice none 0 0]), rR i64 2 u ys] := Hold.news H421 Hn
                  clear H421
                  clear Hn
                  refine r (mv rfl) (r (xt rfl rfl) (r (xt rfl rfl) (r (sa rfl) (r (sa rfl) (re (sq ?_))))))
                  refine jn (α := Unit) (fun _ ρ w' => ρ 0 = v ∧ ρ 2 = .pointer (some ⟨g2, 0, none⟩) ∧ ρ 4 = u ∧ ρ 5 = .bool (numsOk (fs.drop 2)) ∧ Hold w [] w' [rB g2 71 ([.int .i64 0, .int .i64 0, .string ⟨#[]⟩, .string ⟨#[]⟩, .int .i64 0, .slice none 0 0]), rR i64 2 u ys] ∧ ¬ (numsOk (fs.drop 2) = true ∧ fs.length = 4 ∧ gF fs 0 = kFill ∧ (0 ≤ v0 (vals (fs.drop 2)) ∧ v0 (vals (fs.drop 2)) ≤ 2000) ∧ (0 ≤ v1 (vals (fs.drop 2)) ∧ v1 (vals (fs.drop 2)) ≤ 25))) ?_ ?_
                  · refine sq ?_
                    refine gen (fun ρ => ρ 0 = v ∧ ρ 2 = .pointer (some ⟨g2, 0, none⟩) ∧ ρ 4 = u ∧ ρ 5 = .bool (numsOk (fs.drop 2)) ∧ True) ⟨y0, y2, rfl, rfl, trivial⟩ ?_
                    rintro ρ ⟨z0, z2, z4, z5, -⟩
                    refine rg (r (mv z5) (r (mv rfl) ?_))
                    refine spb 109 rfl (fun h5 => ?_) (fun h5 => ?_)
                    · have hyv := hys h5
                      have hyl : ys.length = fs.length - 2 := by rw [hyv, vals, List.length_map]; exact hdl
                      obtain ⟨_, R2104⟩ : ∃ F, Kd.R i64 wn F u ys := Hold.row H422 1 rfl
                      refine gy rfl rfl rfl (r (mv z4) (gy rfl rfl rfl (r (ln Tryd.underlying23 rfl (R2104)) (gy rfl rfl rfl (r (bi rfl rfl rfl) (r (pk rfl rfl) (r (mv rfl) ?_)))))))
                      refine sp 114 rfl (fun h6 => ?_) (fun h6 => ?_)
                      · refine gy rfl rfl rfl (r (mv z0) (gy rfl rfl rfl ?_))
                        obtain ⟨c116_2105, ad116_2105, k116_2105, e116_2105, p116_2105⟩ := Kd.R.place hx 0 ((by omega))
                        refine r (ix (j := 0) Tryd.underlying54 ti9 e116_2105 rfl ((by omega))) (gy rfl rfl rfl (r (Rn.cast (v' := .string (gF fs 0)) (ld Tryd.underlying9 rfl rfl (Ch.cell (Hold.ch H422) p116_2105.cell)) (congrArg Value.string (gd _))) (gy rfl rfl rfl (r (seq rfl rfl) (r (pk rfl rfl) (r (mv rfl) ?_))))))
                        refine sp 120 rfl (fun h7 => ?_) (fun h7 => ?_)
                        · refine gy rfl rfl rfl (r (mv z4) (gy rfl rfl rfl ?_))
                          obtain ⟨c122_2106, ad122_2106, k122_2106, e122_2106, p122_2106⟩ := Kd.R.place R2104 0 ((by omega))
                          refine r (ix (j := 0) Tryd.underlying23 ti2 e122_2106 rfl ((by omega))) (gy rfl rfl rfl (r (Rn.cast (v' := .int .i64 (v0 (vals (fs.drop 2)))) (ld Tryd.underlying2 rfl rfl p122_2106.cell) (congrArg (Value.int .i64) ((gi0 _).trans (by rw [hyv])))) (gy rfl rfl rfl (cl go77 (l6Between) (ac rfl (ac rfl (ac rfl an))) ?_))))
                          rintro r wb2107 ⟨rfl, cb2107⟩
                          have H423 : Hold w [] wb2107 [rB g2 71 ([.int .i64 0, .int .i64 0, .string ⟨#[]⟩, .string ⟨#[]⟩, .int .i64 0, .slice none 0 0]), rR i64 2 u ys] := Hold.t H422 cb2107
                          clear H422
                          clear cb2107
                          refine r (pk rfl rfl) (r (mv rfl) ?_)
                          refine sp 126 rfl (fun h8 => ?_) (fun h8 => ?_)
                          · obtain ⟨_, R2109⟩ : ∃ F, Kd.R i64 wb2107 F u ys := Hold.row H423 1 rfl
                            refine gy rfl rfl rfl (r (mv z4) (gy rfl rfl rfl ?_))
                            obtain ⟨c128_2110, ad128_2110, k128_2110, e128_2110, p128_2110⟩ := Kd.R.place R2109 1 ((by omega))
                            refine r (ix (j := 1) Tryd.underlying23 ti2 e128_2110 rfl ((by omega))) (gy rfl rfl rfl (r (Rn.cast (v' := .int .i64 (v1 (vals (fs.drop 2)))) (ld Tryd.underlying2 rfl rfl p128_2110.cell) (congrArg (Value.int .i64) ((gi1 _).trans (by rw [hyv])))) (gy rfl rfl rfl (cl go77 (l6Between) (ac rfl (ac rfl (ac rfl an))) ?_))))
                            rintro r wb2111 ⟨rfl, cb2111⟩
                            have H424 : Hold w [] wb2111 [rB g2 71 ([.int .i64 0, .int .i64 0, .string ⟨#[]⟩, .string ⟨#[]⟩, .int .i64 0, .slice none 0 0]), rR i64 2 u ys] := Hold.t H423 cb2111
                            clear H423
                            clear cb2111
                            refine r (pk rfl rfl) (re ?_)
                            refine cp rfl (fun h9 => ?_) (fun h9 => ?_)
                            · refine sq ?_
                              refine gen (fun ρ => ρ 0 = v ∧ ρ 2 = .pointer (some ⟨g2, 0, none⟩) ∧ ρ 4 = u ∧ ρ 5 = .bool (numsOk (fs.drop 2)) ∧ True) ⟨z0, z2, z4, z5, trivial⟩ ?_
                              rintro ρ ⟨z0, z2, z4, z5, -⟩
                              refine rde mixed ?_
                              intro w2113 c2113
                              have H425 : Hold w [] w2113 [rB g2 71 ([.int .i64 0, .int .i64 0, .string ⟨#[]⟩, .string ⟨#[]⟩, .int .i64 0, .slice none 0 0]), rR i64 2 u ys] := Hold.t H424 c2113
                              clear H424
                              clear c2113
                              have H2114d0 : Hold w2113 [] w2113 [] := Hold.start w2113
                              refine ⟨fun w' => Ch [] w2113 w', Ch.refl _ _, ?_⟩
                              refine edt 0 rfl (by kernel_rfl) (fun w' hS => mv z0) ?_
                              obtain ⟨c133_2115, ad133_2115, k133_2115, e133_2115, p133_2115⟩ := Kd.R.place hx 1 ((by omega))
                              obtain ⟨_, R2116⟩ : ∃ F, Kd.R i64 w2113 F u ys := Hold.row H425 1 rfl
                              refine edt 1 rfl (by kernel_rfl) (fun w' hS => ix (j := 1) Tryd.underlying54 ti9 e133_2115 rfl ((by omega))) (edt 2 rfl (by kernel_rfl) (fun w' hS => Rn.cast (v' := .string (gF fs 1)) (ld Tryd.underlying9 rfl rfl (Ch.cell hS (Ch.cell (Hold.ch H425) p133_2115.cell))) (congrArg Value.string (gd _))) (edt 3 rfl (by kernel_rfl) (fun w' hS => mv z4) ?_))
                              obtain ⟨c136_2117, ad136_2117, k136_2117, e136_2117, p136_2117⟩ := Kd.R.place R2116 0 ((by omega))
                              refine edt 4 rfl (by kernel_rfl) (fun w' hS => ix (j := 0) Tryd.underlying23 ti2 e136_2117 rfl ((by omega))) (edt 5 rfl (by kernel_rfl) (fun w' hS => Rn.cast (v' := .int .i64 (v0 (vals (fs.drop 2)))) (ld Tryd.underlying2 rfl rfl (Ch.cell hS p136_2117.cell)) (congrArg (Value.int .i64) ((gi0 _).trans (by rw [hyv])))) (edt 6 rfl (by kernel_rfl) (fun w' hS => mv z4) ?_))
                              obtain ⟨c139_2118, ad139_2118, k139_2118, e139_2118, p139_2118⟩ := Kd.R.place R2116 1 ((by omega))
                              refine edt 7 rfl (by kernel_rfl) (fun w' hS => ix (j := 1) Tryd.underlying23 ti2 e139_2118 rfl ((by omega))) (edt 8 rfl (by kernel_rfl) (fun w' hS => Rn.cast (v' := .int .i64 (v1 (vals (fs.drop 2)))) (ld Tryd.underlying2 rfl rfl (Ch.cell hS p139_2118.cell)) (congrArg (Value.int .i64) ((gi1 _).trans (by rw [hyv])))) (ed1 9 (by kernel_rfl) <| euc rfl go103 (ac rfl (ac rfl an)) (l6Letters h8 h9) ?_))
                              rintro r wl ⟨rfl, cl_⟩
                              have H426d : Hold w2113 [] wl [] := Hold.t H2114d0 cl_
                              clear H2114d0
                              clear cl_
                              refine ⟨.inr (Hold.ch H426d), ?_⟩
                              refine edt 10 rfl (by kernel_rfl) (fun w' hS => bd (r := [.int .i64 1, .string (gF fs 1), .string (mkS (letL (v0 (vals (fs.drop 2))) (v1 (vals (fs.drop 2))))), .int .i64 0]) ti62 pl62 (pc rfl (cel1 rfl) (pc rfl (cel1 rfl) (pc rfl (cel1 rfl) pn))) rfl) (ed1 11 (by kernel_rfl) <| euc rfl go102 (ac rfl an) (l6Make) ?_)
                              rintro r wm2120 ⟨rfl, cm2120⟩
                              have H427d : Hold w2113 [] wm2120 [] := Hold.t H426d cm2120
                              clear H426d
                              clear cm2120
                              refine ⟨.inr (Hold.ch H427d), ?_⟩
                              have H428 : Hold w [] wm2120 [rB g2 71 ([.int .i64 0, .int .i64 0, .string ⟨#[]⟩, .string ⟨#[]⟩, .int .i64 0, .slice none 0 0]), rR i64 2 u ys] := Hold.news H425 H427d
                              clear H427d H425
                              have b2122 : B wm2120 g2 71 ([.int .i64 0, .int .i64 0, .string ⟨#[]⟩, .string ⟨#[]⟩, .int .i64 0, .slice none 0 0]) := Hold.blk H428 0 rfl
                              refine ed1 12 (by kernel_rfl) <| euf0 rfl (xst (vs := [.int .i64 1, .int .i64 1, .string (gF fs 1), .string (mkS (letL (v0 (vals (fs.drop 2))) (v1 (vals (fs.drop 2))))), .int .i64 0, .slice none 0 0]) ti71 z2 rfl rfl b2122 rfl (Nat.le_of_ble_eq_true rfl) (one_all rfl)) ?_
                              rintro w2123 ⟨-, b2123, c2123⟩
                              have H429 : Hold w [] w2123 [rB g2 71 ([.int .i64 1, .int .i64 1, .string (gF fs 1), .string (mkS (letL (v0 (vals (fs.drop 2))) (v1 (vals (fs.drop 2))))), .int .i64 0, .slice none 0 0]), rR i64 2 u ys] := Hold.setB H428 0 rfl b2123 c2123 rfl
                              clear H428
                              clear b2123 c2123
                              refine ⟨.inl (by kernel_rfl), ?_⟩
                              refine edd (by kernel_rfl) ?_
                              refine rt ?_
                              have b2124 : B w2123 g2 71 ([.int .i64 1, .int .i64 1, .string (gF fs 1), .string (mkS (letL (v0 (vals (fs.drop 2))) (v1 (vals (fs.drop 2))))), .int .i64 0, .slice none 0 0]) := Hold.blk H429 0 rfl
                              exact finc  (cs := [.int .i64 1, .int .i64 1, .string (gF fs 1), .string (mkS (letL (v0 (vals (fs.drop 2))) (v1 (vals (fs.drop 2))))), .int .i64 0, .slice none 0 0]) Tryd.results75 Tryd.underlying71 rfl ti71 z2 b2124 rfl  ⟨congrArg (fun l => lineVal l (.slice none 0 0)) (show mkC 1 (gF fs 1) (mkS (letL (v0 (vals (fs.drop 2))) (v1 (vals (fs.drop 2))))) 0 = callV fs from by unfold callV; rw [if_neg hN0, if_neg hN1, if_neg hN2, if_neg hN3, if_neg hN4, if_neg hN5, if_neg hN6, if_neg (show ¬ fs.length < 3 by omega), if_pos ⟨h5, by omega, h7, h8, h9⟩]), Hold.ch H429⟩
                            · refine sk ?_
                              exact je () ⟨z0, z2, z4, z5, H424, (fun g => h9 g.2.2.2.2)⟩
                          · refine gn rfl rfl rfl (gn rfl rfl rfl (gn rfl rfl rfl (gn rfl rfl rfl (r (pk rfl rfl) (re (cf rfl (sk ?_)))))))
                            exact je () ⟨z0, z2, z4, z5, H423, (fun g => h8 g.2.2.2.1)⟩
                        · refine gn rfl rfl rfl (gn rfl rfl rfl (gn rfl rfl rfl (gn rfl rfl rfl (r (pk rfl rfl) (r (mv rfl) (gn rfl rfl rfl (gn rfl rfl rfl (gn rfl rfl rfl (gn rfl rfl rfl (r (pk rfl rfl) (re (cf rfl (sk ?_)))))))))))))
                          exact je () ⟨z0, z2, z4, z5, H422, (fun g => h7 g.2.2.1)⟩
                      · refine gn rfl rfl rfl (gn rfl rfl rfl (gn rfl rfl rfl (gn rfl rfl rfl (r (pk rfl rfl) (r (mv rfl) (gn rfl rfl rfl (gn rfl rfl rfl (gn rfl rfl rfl (gn rfl rfl rfl (r (pk rfl rfl) (r (mv rfl) (gn rfl rfl rfl (gn rfl rfl rfl (gn rfl rfl rfl (gn rfl rfl rfl (r (pk rfl rfl) (re (cf rfl (sk ?_)))))))))))))))))))
                        exact je () ⟨z0, z2, z4, z5, H422, (fun g => by omega)⟩
                    · refine gn rfl rfl rfl (gn rfl rfl rfl (gn rfl rfl rfl (r (pk rfl rfl) (r (mv rfl) (gn rfl rfl rfl (gn rfl rfl rfl (gn rfl rfl rfl (gn rfl rfl rfl (r (pk rfl rfl) (r (mv rfl) (gn rfl rfl rfl (gn rfl rfl rfl (gn rfl rfl rfl (gn rfl rfl rfl (r (pk rfl rfl) (r (mv rfl) (gn rfl rfl rfl (gn rfl rfl rfl (gn rfl rfl rfl (gn rfl rfl rfl (r (pk rfl rfl) (re (cf rfl (sk ?_))))))))))))))))))))))))
                      exact je () ⟨z0, z2, z4, z5, H422, (fun g => by rw [h5] at g; exact absurd g.1 (by simp))⟩
                  · rintro _ ρ w982 ⟨y0, y2, y4, y5, H482, hN8⟩
                    clear H422
                    refine sq ?_
                    refine jn (α := Unit) (fun _ ρ w' => ρ 2 = .pointer (some ⟨g2, 0, none⟩) ∧ Hold w [] w' [rB g2 71 ([.int .i64 0, .int .i64 0, .string ⟨#[]⟩, .string ⟨#[]⟩, .int .i64 0, .slice none 0 0]), rR i64 2 u ys] ∧ ¬ (numsOk (fs.drop 2) = true ∧ fs.length = 3 ∧ gF fs 0 = kTrunc)) ?_ ?_
                    · refine sq (rg (r (mv y5) (r (mv rfl) ?_)))
                      refine spb 145 rfl (fun h5 => ?_) (fun h5 => ?_)
                      · have hyv := hys h5
                        have hyl : ys.length = fs.length - 2 := by rw [hyv, vals, List.length_map]; exact hdl
                        obtain ⟨_, R2404⟩ : ∃ F, Kd.R i64 w982 F u ys := Hold.row H482 1 rfl
                        refine gy rfl rfl rfl (r (mv y4) (gy rfl rfl rfl (r (ln Tryd.underlying23 rfl (R2404)) (gy rfl rfl rfl (r (bi rfl rfl rfl) (r (pk rfl rfl) (r (mv rfl) ?_)))))))
                        refine sp 150 rfl (fun h6 => ?_) (fun h6 => ?_)
                        · refine gy rfl rfl rfl (r (mv y0) (gy rfl rfl rfl ?_))
                          obtain ⟨c152_2405, ad152_2405, k152_2405, e152_2405, p152_2405⟩ := Kd.R.place hx 0 ((by omega))
                          refine r (ix (j := 0) Tryd.underlying54 ti9 e152_2405 rfl ((by omega))) (gy rfl rfl rfl (r (Rn.cast (v' := .string (gF fs 0)) (ld Tryd.underlying9 rfl rfl (Ch.cell (Hold.ch H482) p152_2405.cell)) (congrArg Value.string (gd _))) (gy rfl rfl rfl (r (seq rfl rfl) (r (pk rfl rfl) (re ?_))))))
                          refine cp rfl (fun h7 => ?_) (fun h7 => ?_)
                          · refine sq ?_
                            refine gen (fun ρ => ρ 0 = v ∧ ρ 2 = .pointer (some ⟨g2, 0, none⟩) ∧ ρ 4 = u ∧ True) ⟨y0, y2, y4, trivial⟩ ?_
                            rintro ρ ⟨z0, z2, z4, -⟩
                            refine rde mixed ?_
                            intro w2406 c2406
                            have H483 : Hold w [] w2406 [rB g2 71 ([.int .i64 0, .int .i64 0, .string ⟨#[]⟩, .string ⟨#[]⟩, .int .i64 0, .slice none 0 0]), rR i64 2 u ys] := Hold.t H482 c2406
                            clear H482
                            clear c2406
                            have H2407d0 : Hold w2406 [] w2406 [] := Hold.start w2406
                            refine ⟨fun w' => Ch [] w2406 w', Ch.refl _ _, ?_⟩
                            refine edt 0 rfl (by kernel_rfl) (fun w' hS => mv z0) ?_
                            obtain ⟨c157_2408, ad157_2408, k157_2408, e157_2408, p157_2408⟩ := Kd.R.place hx 1 ((by omega))
                            obtain ⟨_, R2409⟩ : ∃ F, Kd.R i64 w2406 F u ys := Hold.row H483 1 rfl
                            refine edt 1 rfl (by kernel_rfl) (fun w' hS => ix (j := 1) Tryd.underlying54 ti9 e157_2408 rfl ((by omega))) (edt 2 rfl (by kernel_rfl) (fun w' hS => Rn.cast (v' := .string (gF fs 1)) (ld Tryd.underlying9 rfl rfl (Ch.cell hS (Ch.cell (Hold.ch H483) p157_2408.cell))) (congrArg Value.string (gd _))) (edt 3 rfl (by kernel_rfl) (fun w' hS => mv z4) ?_))
                            obtain ⟨c160_2410, ad160_2410, k160_2410, e160_2410, p160_2410⟩ := Kd.R.place R2409 0 ((by omega))
                            refine edt 4 rfl (by kernel_rfl) (fun w' hS => ix (j := 0) Tryd.underlying23 ti2 e160_2410 rfl ((by omega))) (edt 5 rfl (by kernel_rfl) (fun w' hS => Rn.cast (v' := .int .i64 (v0 (vals (fs.drop 2)))) (ld Tryd.underlying2 rfl rfl (Ch.cell hS p160_2410.cell)) (congrArg (Value.int .i64) ((gi0 _).trans (by rw [hyv])))) (edt 6 rfl (by kernel_rfl) (fun w' hS => bd (r := [.int .i64 3, .string (gF fs 1), .string ⟨#[]⟩, .int .i64 (v0 (vals (fs.drop 2)))]) ti62 pl62 (pc rfl (cel1 rfl) (pc rfl (cel1 rfl) (pc rfl (cel1 rfl) pn))) rfl) (ed1 7 (by kernel_rfl) <| euc rfl go102 (ac rfl an) (l6Make) ?_)))
                            rintro r wm2411 ⟨rfl, cm2411⟩
                            have H484d : Hold w2406 [] wm2411 [] := Hold.t H2407d0 cm2411
                            clear H2407d0
                            clear cm2411
                            refine ⟨.inr (Hold.ch H484d), ?_⟩
                            have H485 : Hold w [] wm2411 [rB g2 71 ([.int .i64 0, .int .i64 0, .string ⟨#[]⟩, .string ⟨#[]⟩, .int .i64 0, .slice none 0 0]), rR i64 2 u ys] := Hold.news H483 H484d
                            clear H484d H483
                            have b2413 : B wm2411 g2 71 ([.int .i64 0, .int .i64 0, .string ⟨#[]⟩, .string ⟨#[]⟩, .int .i64 0, .slice none 0 0]) := Hold.blk H485 0 rfl
                            refine ed1 8 (by kernel_rfl) <| euf0 rfl (xst (vs := [.int .i64 1, .int .i64 3, .string (gF fs 1), .string ⟨#[]⟩, .int .i64 (v0 (vals (fs.drop 2))), .slice none 0 0]) ti71 z2 rfl rfl b2413 rfl (Nat.le_of_ble_eq_true rfl) (one_all rfl)) ?_
                            rintro w2414 ⟨-, b2414, c2414⟩
                            have H486 : Hold w [] w2414 [rB g2 71 ([.int .i64 1, .int .i64 3, .string (gF fs 1), .string ⟨#[]⟩, .int .i64 (v0 (vals (fs.drop 2))), .slice none 0 0]), rR i64 2 u ys] := Hold.setB H485 0 rfl b2414 c2414 rfl
                            clear H485
                            clear b2414 c2414
                            refine ⟨.inl (by kernel_rfl), ?_⟩
                            refine edd (by kernel_rfl) ?_
                            refine rt ?_
                            have b2415 : B w2414 g2 71 ([.int .i64 1, .int .i64 3, .string (gF fs 1), .string ⟨#[]⟩, .int .i64 (v0 (vals (fs.drop 2))), .slice none 0 0]) := Hold.blk H486 0 rfl
                            exact finc  (cs := [.int .i64 1, .int .i64 3, .string (gF fs 1), .string ⟨#[]⟩, .int .i64 (v0 (vals (fs.drop 2))), .slice none 0 0]) Tryd.results75 Tryd.underlying71 rfl ti71 z2 b2415 rfl  ⟨congrArg (fun l => lineVal l (.slice none 0 0)) (show mkC 3 (gF fs 1) bE (v0 (vals (fs.drop 2))) = callV fs from by unfold callV; rw [if_neg hN0, if_neg hN1, if_neg hN2, if_neg hN3, if_neg hN4, if_neg hN5, if_neg hN6, if_neg (show ¬ fs.length < 3 by omega), if_neg hN8, if_pos ⟨h5, by omega, h7⟩]), Hold.ch H486⟩
                          · refine sk ?_
                            exact je () ⟨y2, H482, (fun g => h7 g.2.2)⟩
                        · refine gn rfl rfl rfl (gn rfl rfl rfl (gn rfl rfl rfl (gn rfl rfl rfl (r (pk rfl rfl) (re (cf rfl (sk ?_)))))))
                          exact je () ⟨y2, H482, (fun g => by omega)⟩
                      · refine gn rfl rfl rfl (gn rfl rfl rfl (gn rfl rfl rfl (r (pk rfl rfl) (r (mv rfl) (gn rfl rfl rfl (gn rfl rfl rfl (gn rfl rfl rfl (gn rfl rfl rfl (r (pk rfl rfl) (re (cf rfl (sk ?_))))))))))))
                        exact je () ⟨y2, H482, (fun g => by rw [h5] at g; exact absurd g.1 (by simp))⟩
                    · rintro _ ρ w1042 ⟨y2, H542, hN9⟩
                      clear H482
                      have b2704 : B w1042 g2 71 ([.int .i64 0, .int .i64 0, .string ⟨#[]⟩, .string ⟨#[]⟩, .int .i64 0, .slice none 0 0]) := Hold.blk H542 0 rfl
                      refine sq (rg (r (bd (r := [.int .i64 0, .int .i64 0, .string ⟨#[]⟩, .string ⟨#[]⟩, .int .i64 0, .slice none 0 0]) ti71 pl71 pn rfl) (ef0 (xst (vs := [.int .i64 0, .int .i64 0, .string ⟨#[]⟩, .string ⟨#[]⟩, .int .i64 0, .slice none 0 0]) ti71 y2 rfl rfl b2704 rfl (Nat.le_of_ble_eq_true rfl) (one_all rfl)) ?_)))
                      rintro w2705 ⟨-, b2705, c2705⟩
                      have H543 : Hold w [] w2705 [rB g2 71 ([.int .i64 0, .int .i64 0, .string ⟨#[]⟩, .string ⟨#[]⟩, .int .i64 0, .slice none 0 0]), rR i64 2 u ys] := Hold.setB H542 0 rfl b2705 c2705 rfl
                      clear H542
                      clear b2705 c2705
                      refine re (rt ?_)
                      have b2706 : B w2705 g2 71 ([.int .i64 0, .int .i64 0, .string ⟨#[]⟩, .string ⟨#[]⟩, .int .i64 0, .slice none 0 0]) := Hold.blk H543 0 rfl
                      exact finc  (cs := [.int .i64 0, .int .i64 0, .string ⟨#[]⟩, .string ⟨#[]⟩, .int .i64 0, .slice none 0 0]) Tryd.results75 Tryd.underlying71 rfl ti71 y2 b2706 rfl  ⟨congrArg (fun l => lineVal l (.slice none 0 0)) (show badL = callV fs from by unfold callV; rw [if_neg hN0, if_neg hN1, if_neg hN2, if_neg hN3, if_neg hN4, if_neg hN5, if_neg hN6, if_neg (show ¬ fs.length < 3 by omega), if_neg hN8, if_neg hN9]), Hold.ch H543⟩
end Go.Proofs.YtgpcanjmgdmdhaaDoor

namespace Go.Proofs.YtgpcanjmgdmdhaaDoor
open Go Go.Eng
set_option maxRecDepth 100000
set_option maxHeartbeats 4000000
set_option linter.unusedVariables false
set_option linter.unusedSimpArgs false
theorem spec_ParseLine {w : World} {F : List Nat} {v : Value} {xs : List Int} (hx : u8.R w F v xs) (lx : xs.length ≤ 2000000) : Ret Tryd.prog 33 #[v] w (fun r w' => ∃ u, r = lineVal (lineV xs) u ∧ Hold w [] w' [rR i64 2 u (lineV xs).ns]) := by
  refine enter Tryd.func33 rfl Tryd.ntmps33 (by rfl) (by rfl) ?_
  have H0 : Hold w [] w [] := Hold.start w
  refine sq (rg (ef (xal ti71) ?_))
  rintro _ w1 ⟨g2, e1, rfl, -, b1, c1⟩
  have H1 : Hold w [] w1 [rB g2 71 ([.int .i64 0, .int .i64 0, .string ⟨#[]⟩, .string ⟨#[]⟩, .int .i64 0, .slice none 0 0])] := Hold.newB H0 e1 b1 c1
  clear H0
  clear e1 b1 c1
  refine re (sq (sq (rg (r (mv rfl) (r (ln Tryd.underlying22 rfl ((hx.t (Hold.ch H1)))) (r (bi rfl rfl rfl) (re ?_)))))))
  refine cp rfl (fun h0 => ?_) (fun h0 => ?_)
  · have hL : lineV xs = badL := by unfold lineV; rw [if_pos (by omega)]
    have b2 : B w1 g2 71 ([.int .i64 0, .int .i64 0, .string ⟨#[]⟩, .string ⟨#[]⟩, .int .i64 0, .slice none 0 0]) := Hold.blk H1 0 rfl
    refine sq (rg (r (bd (r := [.int .i64 0, .int .i64 0, .string ⟨#[]⟩, .string ⟨#[]⟩, .int .i64 0, .slice none 0 0]) ti71 pl71 pn rfl) (ef0 (xst (vs := [.int .i64 0, .int .i64 0, .string ⟨#[]⟩, .string ⟨#[]⟩, .int .i64 0, .slice none 0 0]) ti71 rfl rfl rfl b2 rfl (Nat.le_of_ble_eq_true rfl) (one_all rfl)) ?_)))
    rintro w3 ⟨-, b3, c3⟩
    have H2 : Hold w [] w3 [rB g2 71 ([.int .i64 0, .int .i64 0, .string ⟨#[]⟩, .string ⟨#[]⟩, .int .i64 0, .slice none 0 0])] := Hold.setB H1 0 rfl b3 c3 rfl
    clear H1
    clear b3 c3
    refine re (rt ?_)
    have H3 : Hold w [] w3 [rB g2 71 ([.int .i64 0, .int .i64 0, .string ⟨#[]⟩, .string ⟨#[]⟩, .int .i64 0, .slice none 0 0]), rR i64 2 (.slice none 0 0) ([])] := Hold.nilrow i64 2 H2
    clear H2
    have b4 : B w3 g2 71 ([.int .i64 0, .int .i64 0, .string ⟨#[]⟩, .string ⟨#[]⟩, .int .i64 0, .slice none 0 0]) := Hold.blk H3 0 rfl
    have H4 : Hold w [] w3 [rR i64 2 (.slice none 0 0) ([])] := (show Hold w [] w3 ([rR i64 2 (.slice none 0 0) ([])] ++ [rB g2 71 ([.int .i64 0, .int .i64 0, .string ⟨#[]⟩, .string ⟨#[]⟩, .int .i64 0, .slice none 0 0])]) from Hold.re H3 [1, 0] (by kernel_rfl) (by rfl)).drop
    clear H3
    exact finc  (cs := [.int .i64 0, .int .i64 0, .string ⟨#[]⟩, .string ⟨#[]⟩, .int .i64 0, .slice none 0 0]) Tryd.results33 Tryd.underlying71 rfl ti71 rfl b4 rfl  ⟨_, by rw [hL], by rw [hL]; exact H4⟩
  · obtain ⟨fs, hfs⟩ : ∃ fs, fs = fieldsF xs := ⟨_, rfl⟩
    have hfl : fs.length ≤ 1000000 := by
      have := cutF_len xs
      rw [hfs, fieldsF]; split
      · omega
      · simp
    refine sk (sq (rg (r (mv rfl) (cl go74 (l6Fields (hx.t (Hold.ch H1)) (by omega)) (ac rfl an) ?_))))
    rintro t wt Ht
    rw [← hfs] at Ht
    have H2 : Hold w [] wt [rB g2 71 ([.int .i64 0, .int .i64 0, .string ⟨#[]⟩, .string ⟨#[]⟩, .int .i64 0, .slice none 0 0]), rR kStr 9 t fs] := Hold.news H1 Ht
    clear H1
    clear Ht
    obtain ⟨_, R3⟩ : ∃ F, Kd.R kStr wt F t fs := Hold.row H2 1 rfl
    refine r (sa rfl) (re (sq (sq (rg (r (mv rfl) (r (ln Tryd.underlying54 rfl (R3)) (r (bi rfl rfl rfl) (re ?_))))))))
    refine cp rfl (fun h1 => ?_) (fun h1 => ?_)
    · have hL : lineV xs = badL := by unfold lineV; rw [if_neg (by omega), ← hfs, if_pos (by omega)]
      refine sq ?_
      refine gen (fun ρ => ρ 2 = .pointer (some ⟨g2, 0, none⟩) ∧ ρ 3 = t ∧ True) ⟨rfl, rfl, trivial⟩ ?_
      rintro ρ ⟨z2, z3, -⟩
      have b4 : B wt g2 71 ([.int .i64 0, .int .i64 0, .string ⟨#[]⟩, .string ⟨#[]⟩, .int .i64 0, .slice none 0 0]) := Hold.blk H2 0 rfl
      refine rg (r (bd (r := [.int .i64 0, .int .i64 0, .string ⟨#[]⟩, .string ⟨#[]⟩, .int .i64 0, .slice none 0 0]) ti71 pl71 pn rfl) (ef0 (xst (vs := [.int .i64 0, .int .i64 0, .string ⟨#[]⟩, .string ⟨#[]⟩, .int .i64 0, .slice none 0 0]) ti71 z2 rfl rfl b4 rfl (Nat.le_of_ble_eq_true rfl) (one_all rfl)) ?_))
      rintro w5 ⟨-, b5, c5⟩
      have H3 : Hold w [] w5 [rB g2 71 ([.int .i64 0, .int .i64 0, .string ⟨#[]⟩, .string ⟨#[]⟩, .int .i64 0, .slice none 0 0]), rR kStr 9 t fs] := Hold.setB H2 0 rfl b5 c5 rfl
      clear H2
      clear b5 c5
      refine re (rt ?_)
      have H4 : Hold w [] w5 [rB g2 71 ([.int .i64 0, .int .i64 0, .string ⟨#[]⟩, .string ⟨#[]⟩, .int .i64 0, .slice none 0 0]), rR kStr 9 t fs, rR i64 2 (.slice none 0 0) ([])] := Hold.nilrow i64 2 H3
      clear H3
      have b6 : B w5 g2 71 ([.int .i64 0, .int .i64 0, .string ⟨#[]⟩, .string ⟨#[]⟩, .int .i64 0, .slice none 0 0]) := Hold.blk H4 0 rfl
      have H5 : Hold w [] w5 [rR i64 2 (.slice none 0 0) ([])] := (show Hold w [] w5 ([rR i64 2 (.slice none 0 0) ([])] ++ [rB g2 71 ([.int .i64 0, .int .i64 0, .string ⟨#[]⟩, .string ⟨#[]⟩, .int .i64 0, .slice none 0 0]), rR kStr 9 t fs]) from Hold.re H4 [2, 0, 1] (by kernel_rfl) (by rfl)).drop
      clear H4
      exact finc  (cs := [.int .i64 0, .int .i64 0, .string ⟨#[]⟩, .string ⟨#[]⟩, .int .i64 0, .slice none 0 0]) Tryd.results33 Tryd.underlying71 rfl ti71 z2 b6 rfl  ⟨_, by rw [hL], by rw [hL]; exact H5⟩
    · have hV : lineV xs = lineF fs := by unfold lineV; rw [if_neg (by omega), ← hfs, if_neg (by omega)]
      refine sk (sq ?_)
      refine gen (fun ρ => ρ 2 = .pointer (some ⟨g2, 0, none⟩) ∧ ρ 3 = t ∧ True) ⟨rfl, rfl, trivial⟩ ?_
      rintro ρ ⟨z2, z3, -⟩
      refine rg (r (mv z3) (cl go75 (l6CallLine R3 hfl (by omega)) (ac rfl an) ?_))
      rintro r wc ⟨rfl, cc⟩
      have H3 : Hold w [] wc [rB g2 71 ([.int .i64 0, .int .i64 0, .string ⟨#[]⟩, .string ⟨#[]⟩, .int .i64 0, .slice none 0 0]), rR kStr 9 t fs] := Hold.t H2 cc
      clear H2
      clear cc
      refine ef (xal ti71) ?_
      rintro _ w5 ⟨g4, e5, rfl, -, b5, c5⟩
      have H4 : Hold w [] w5 [rB g2 71 ([.int .i64 0, .int .i64 0, .string ⟨#[]⟩, .string ⟨#[]⟩, .int .i64 0, .slice none 0 0]), rR kStr 9 t fs, rB g4 71 ([.int .i64 0, .int .i64 0, .string ⟨#[]⟩, .string ⟨#[]⟩, .int .i64 0, .slice none 0 0])] := Hold.newB H3 e5 b5 c5
      clear H3
      clear e5 b5 c5
      have b6 : B w5 g4 71 ([.int .i64 0, .int .i64 0, .string ⟨#[]⟩, .string ⟨#[]⟩, .int .i64 0, .slice none 0 0]) := Hold.blk H4 2 rfl
      refine ef0 (xst (vs := [.int .i64 ((callV fs).kind), .int .i64 ((callV fs).ck), .string ((callV fs).nm), .string ((callV fs).dt), .int .i64 ((callV fs).sz), .slice none 0 0]) ti71 rfl rfl rfl b6 rfl (Nat.le_of_ble_eq_true rfl) (one_all rfl)) ?_
      rintro w7 ⟨-, b7, c7⟩
      have H5 : Hold w [] w7 [rB g2 71 ([.int .i64 0, .int .i64 0, .string ⟨#[]⟩, .string ⟨#[]⟩, .int .i64 0, .slice none 0 0]), rR kStr 9 t fs, rB g4 71 ([.int .i64 ((callV fs).kind), .int .i64 ((callV fs).ck), .string ((callV fs).nm), .string ((callV fs).dt), .int .i64 ((callV fs).sz), .slice none 0 0])] := Hold.setB H4 2 rfl b7 c7 rfl
      clear H4
      clear b7 c7
      have b8 : B w7 g4 71 ([.int .i64 ((callV fs).kind), .int .i64 ((callV fs).ck), .string ((callV fs).nm), .string ((callV fs).dt), .int .i64 ((callV fs).sz), .slice none 0 0]) := Hold.blk H5 2 rfl
      refine re (sq (sq (rg (r (fa Tryd.underlying71 rfl ti2 rfl rfl) (r (ldb Tryd.underlying2 rfl rfl b8 rfl) (r (bi rfl rfl rfl) (re ?_)))))))
      refine cpn rfl (fun h2 => ?_) (fun h2 => ?_)
      · have hL : lineV xs = callV fs := hV.trans (by unfold lineF; rw [if_pos h2])
        have b9 : B w7 g2 71 ([.int .i64 0, .int .i64 0, .string ⟨#[]⟩, .string ⟨#[]⟩, .int .i64 0, .slice none 0 0]) := Hold.blk H5 0 rfl
        refine sq (rg (r (lab [.int .i64 ((callV fs).kind), .int .i64 ((callV fs).ck), .string ((callV fs).nm), .string ((callV fs).dt), .int .i64 ((callV fs).sz), .slice none 0 0] Tryd.underlying71 rfl ti71 rfl b8 rfl rfl) (ef0 (xst (vs := [.int .i64 ((callV fs).kind), .int .i64 ((callV fs).ck), .string ((callV fs).nm), .string ((callV fs).dt), .int .i64 ((callV fs).sz), .slice none 0 0]) ti71 z2 rfl rfl b9 rfl (Nat.le_of_ble_eq_true rfl) (one_all rfl)) ?_)))
        rintro w10 ⟨-, b10, c10⟩
        have H6 : Hold w [] w10 [rB g2 71 ([.int .i64 ((callV fs).kind), .int .i64 ((callV fs).ck), .string ((callV fs).nm), .string ((callV fs).dt), .int .i64 ((callV fs).sz), .slice none 0 0]), rR kStr 9 t fs, rB g4 71 ([.int .i64 ((callV fs).kind), .int .i64 ((callV fs).ck), .string ((callV fs).nm), .string ((callV fs).dt), .int .i64 ((callV fs).sz), .slice none 0 0])] := Hold.setB H5 0 rfl b10 c10 rfl
        clear H5
        clear b10 c10
        refine re (rt ?_)
        have H7 : Hold w [] w10 [rB g2 71 ([.int .i64 ((callV fs).kind), .int .i64 ((callV fs).ck), .string ((callV fs).nm), .string ((callV fs).dt), .int .i64 ((callV fs).sz), .slice none 0 0]), rR kStr 9 t fs, rB g4 71 ([.int .i64 ((callV fs).kind), .int .i64 ((callV fs).ck), .string ((callV fs).nm), .string ((callV fs).dt), .int .i64 ((callV fs).sz), .slice none 0 0]), rR i64 2 (.slice none 0 0) ([])] := Hold.nilrow i64 2 H6
        clear H6
        have b11 : B w10 g2 71 ([.int .i64 ((callV fs).kind), .int .i64 ((callV fs).ck), .string ((callV fs).nm), .string ((callV fs).dt), .int .i64 ((callV fs).sz), .slice none 0 0]) := Hold.blk H7 0 rfl
        have H8 : Hold w [] w10 [rR i64 2 (.slice none 0 0) ([])] := (show Hold w [] w10 ([rR i64 2 (.slice none 0 0) ([])] ++ [rB g2 71 ([.int .i64 ((callV fs).kind), .int .i64 ((callV fs).ck), .string ((callV fs).nm), .string ((callV fs).dt), .int .i64 ((callV fs).sz), .slice none 0 0]), rR kStr 9 t fs, rB g4 71 ([.int .i64 ((callV fs).kind), .int .i64 ((callV fs).ck), .string ((callV fs).nm), .string ((callV fs).dt), .int .i64 ((callV fs).sz), .slice none 0 0])]) from Hold.re H7 [3, 0, 1, 2] (by kernel_rfl) (by rfl)).drop
        clear H7
        exact finc  (cs := [.int .i64 ((callV fs).kind), .int .i64 ((callV fs).ck), .string ((callV fs).nm), .string ((callV fs).dt), .int .i64 ((callV fs).sz), .slice none 0 0]) Tryd.results33 Tryd.underlying71 rfl ti71 z2 b11 rfl  ⟨_, by rw [hL], by rw [hL, callV_ns]; exact H8⟩
      · refine sk (sq ?_)
        refine jn (α := Unit) (fun _ ρ w' => ρ 2 = .pointer (some ⟨g2, 0, none⟩) ∧ ρ 3 = t ∧ Hold w [] w' [rB g2 71 ([.int .i64 0, .int .i64 0, .string ⟨#[]⟩, .string ⟨#[]⟩, .int .i64 0, .slice none 0 0]), rR kStr 9 t fs, rB g4 71 ([.int .i64 ((callV fs).kind), .int .i64 ((callV fs).ck), .string ((callV fs).nm), .string ((callV fs).dt), .int .i64 ((callV fs).sz), .slice none 0 0])] ∧ ¬ (fs.length = 1 ∧ gF fs 0 = kMount)) ?_ ?_
        · obtain ⟨_, R9⟩ : ∃ F, Kd.R kStr w7 F t fs := Hold.row H5 1 rfl
          refine sq (rg (r (mv z3) (r (ln Tryd.underlying54 rfl (R9)) (r (bi rfl rfl rfl) (r (mv rfl) ?_)))))
          refine sp 26 rfl (fun hl => ?_) (fun hl => ?_)
          · refine gy rfl rfl rfl (r (mv z3) (gy rfl rfl rfl ?_))
            obtain ⟨c28_10, ad28_10, k28_10, e28_10, p28_10⟩ := Kd.R.place R9 0 ((by omega))
            refine r (ix (j := 0) Tryd.underlying54 ti9 e28_10 rfl ((by omega))) (gy rfl rfl rfl (r (Rn.cast (v' := .string (gF fs 0)) (ld Tryd.underlying9 rfl rfl p28_10.cell) (congrArg Value.string (gd _))) (gy rfl rfl rfl (r (seq rfl rfl) (r (pk rfl rfl) (re ?_))))))
            refine cp rfl (fun hk => ?_) (fun hk => ?_)
            · refine sq ?_
              refine gen (fun ρ => ρ 2 = .pointer (some ⟨g2, 0, none⟩) ∧ ρ 3 = t ∧ True) ⟨z2, z3, trivial⟩ ?_
              rintro ρ ⟨z2, z3, -⟩
              have b11 : B w7 g2 71 ([.int .i64 0, .int .i64 0, .string ⟨#[]⟩, .string ⟨#[]⟩, .int .i64 0, .slice none 0 0]) := Hold.blk H5 0 rfl
              refine rg (r (bd (r := [.int .i64 2, .int .i64 0, .string ⟨#[]⟩, .string ⟨#[]⟩, .int .i64 0, .slice none 0 0]) ti71 pl71 (pc rfl (cel1 rfl) pn) rfl) (ef0 (xst (vs := [.int .i64 2, .int .i64 0, .string ⟨#[]⟩, .string ⟨#[]⟩, .int .i64 0, .slice none 0 0]) ti71 z2 rfl rfl b11 rfl (Nat.le_of_ble_eq_true rfl) (one_all rfl)) ?_))
              rintro w12 ⟨-, b12, c12⟩
              have H6 : Hold w [] w12 [rB g2 71 ([.int .i64 2, .int .i64 0, .string ⟨#[]⟩, .string ⟨#[]⟩, .int .i64 0, .slice none 0 0]), rR kStr 9 t fs, rB g4 71 ([.int .i64 ((callV fs).kind), .int .i64 ((callV fs).ck), .string ((callV fs).nm), .string ((callV fs).dt), .int .i64 ((callV fs).sz), .slice none 0 0])] := Hold.setB H5 0 rfl b12 c12 rfl
              clear H5
              clear b12 c12
              refine re (rt ?_)
              have hL : lineV xs = mkN 2 [] := hV.trans (by unfold lineF; rw [if_neg (fun g => g (by simpa using h2)), if_pos ⟨by omega, hk⟩])
              have H7 : Hold w [] w12 [rB g2 71 ([.int .i64 2, .int .i64 0, .string ⟨#[]⟩, .string ⟨#[]⟩, .int .i64 0, .slice none 0 0]), rR kStr 9 t fs, rB g4 71 ([.int .i64 ((callV fs).kind), .int .i64 ((callV fs).ck), .string ((callV fs).nm), .string ((callV fs).dt), .int .i64 ((callV fs).sz), .slice none 0 0]), rR i64 2 (.slice none 0 0) ([])] := Hold.nilrow i64 2 H6
              clear H6
              have b13 : B w12 g2 71 ([.int .i64 2, .int .i64 0, .string ⟨#[]⟩, .string ⟨#[]⟩, .int .i64 0, .slice none 0 0]) := Hold.blk H7 0 rfl
              have H8 : Hold w [] w12 [rR i64 2 (.slice none 0 0) ([])] := (show Hold w [] w12 ([rR i64 2 (.slice none 0 0) ([])] ++ [rB g2 71 ([.int .i64 2, .int .i64 0, .string ⟨#[]⟩, .string ⟨#[]⟩, .int .i64 0, .slice none 0 0]), rR kStr 9 t fs, rB g4 71 ([.int .i64 ((callV fs).kind), .int .i64 ((callV fs).ck), .string ((callV fs).nm), .string ((callV fs).dt), .int .i64 ((callV fs).sz), .slice none 0 0])]) from Hold.re H7 [3, 0, 1, 2] (by kernel_rfl) (by rfl)).drop
              clear H7
              exact finc  (cs := [.int .i64 2, .int .i64 0, .string ⟨#[]⟩, .string ⟨#[]⟩, .int .i64 0, .slice none 0 0]) Tryd.results33 Tryd.underlying71 rfl ti71 z2 b13 rfl  ⟨_, by rw [hL], by rw [hL]; exact H8⟩
            · refine sk ?_
              exact je () ⟨z2, z3, H5, (fun g => hk g.2)⟩
          · refine gn rfl rfl rfl (gn rfl rfl rfl (gn rfl rfl rfl (gn rfl rfl rfl (r (pk rfl rfl) (re (cf rfl (sk ?_)))))))
            exact je () ⟨z2, z3, H5, (fun g => by omega)⟩
        · rintro _ ρ w565 ⟨y2, y3, H65, hN1⟩
          clear H5
          have hdl : (fs.drop 1).length = fs.length - 1 := List.length_drop ..
          obtain ⟨_, R309⟩ : ∃ F, Kd.R kStr w565 F t fs := Hold.row H65 1 rfl
          obtain ⟨F311, us311, R311⟩ := Kd.R.sl R309 (1) (fs.length) (by first | omega | (simp; omega)) (by first | omega | (simp; omega))
          have e311 : (fs.take fs.length).drop 1 = fs.drop 1 := by first | (rw [List.take_length, List.drop_drop]; done) | (rw [List.drop_take]; done) | (simp; done) | (rw [List.drop_take]; congr 1; omega) | (rw [List.take_length, List.drop_drop]; congr 1; omega)
          rw [e311] at R311
          refine sq (rg (r (mv y3) (r (slrl (1) Tryd.underlying54 ti9 R309 rfl rfl (by omega)) (cl go76 (l6Nums R311 (by rw [hdl]; omega)) (ac rfl an) ?_))))
          rintro r wn ⟨u, ys, rfl, hys, Hn⟩
          have H66 : Hold w [] wn [rB g2 71 ([.int .i64 0, .int .i64 0, .string ⟨#[]⟩, .string ⟨#[]⟩, .int .i64 0, .slice none 0 0]), rR kStr 9 t fs, rB g4 71 ([.int .i64 ((callV fs).kind), .int .i64 ((callV fs).ck), .string ((callV fs).nm), .string ((callV fs).dt), .int .i64 ((callV fs).sz), .slice none 0 0]), rR i64 2 u ys] := Hold.news H65 Hn
          clear H65
          clear Hn
          refine r (mv rfl) (r (xt rfl rfl) (r (xt rfl rfl) (r (sa rfl) (r (sa rfl) (re (sq (sq (rg (r (mv rfl) (r (nt rfl) (re ?_)))))))))))
          refine cd rfl (fun h40 => ?_) (fun h40 => ?_)
          · have hL : lineV xs = badL := hV.trans (by unfold lineF; rw [if_neg (fun g => g (by simpa using h2)), if_neg hN1, if_pos (by simpa using h40)])
            refine sq ?_
            refine gen (fun ρ => ρ 2 = .pointer (some ⟨g2, 0, none⟩) ∧ ρ 3 = t ∧ ρ 5 = u ∧ True) ⟨y2, y3, rfl, trivial⟩ ?_
            rintro ρ ⟨z2, z3, z5, -⟩
            have b312 : B wn g2 71 ([.int .i64 0, .int .i64 0, .string ⟨#[]⟩, .string ⟨#[]⟩, .int .i64 0, .slice none 0 0]) := Hold.blk H66 0 rfl
            refine rg (r (bd (r := [.int .i64 0, .int .i64 0, .string ⟨#[]⟩, .string ⟨#[]⟩, .int .i64 0, .slice none 0 0]) ti71 pl71 pn rfl) (ef0 (xst (vs := [.int .i64 0, .int .i64 0, .string ⟨#[]⟩, .string ⟨#[]⟩, .int .i64 0, .slice none 0 0]) ti71 z2 rfl rfl b312 rfl (Nat.le_of_ble_eq_true rfl) (one_all rfl)) ?_))
            rintro w313 ⟨-, b313, c313⟩
            have H67 : Hold w [] w313 [rB g2 71 ([.int .i64 0, .int .i64 0, .string ⟨#[]⟩, .string ⟨#[]⟩, .int .i64 0, .slice none 0 0]), rR kStr 9 t fs, rB g4 71 ([.int .i64 ((callV fs).kind), .int .i64 ((callV fs).ck), .string ((callV fs).nm), .string ((callV fs).dt), .int .i64 ((callV fs).sz), .slice none 0 0]), rR i64 2 u ys] := Hold.setB H66 0 rfl b313 c313 rfl
            clear H66
            clear b313 c313
            refine re (rt ?_)
            have H68 : Hold w [] w313 [rB g2 71 ([.int .i64 0, .int .i64 0, .string ⟨#[]⟩, .string ⟨#[]⟩, .int .i64 0, .slice none 0 0]), rR kStr 9 t fs, rB g4 71 ([.int .i64 ((callV fs).kind), .int .i64 ((callV fs).ck), .string ((callV fs).nm), .string ((callV fs).dt), .int .i64 ((callV fs).sz), .slice none 0 0]), rR i64 2 u ys, rR i64 2 (.slice none 0 0) ([])] := Hold.nilrow i64 2 H67
            clear H67
            have b314 : B w313 g2 71 ([.int .i64 0, .int .i64 0, .string ⟨#[]⟩, .string ⟨#[]⟩, .int .i64 0, .slice none 0 0]) := Hold.blk H68 0 rfl
            have H69 : Hold w [] w313 [rR i64 2 (.slice none 0 0) ([])] := (show Hold w [] w313 ([rR i64 2 (.slice none 0 0) ([])] ++ [rB g2 71 ([.int .i64 0, .int .i64 0, .string ⟨#[]⟩, .string ⟨#[]⟩, .int .i64 0, .slice none 0 0]), rR kStr 9 t fs, rB g4 71 ([.int .i64 ((callV fs).kind), .int .i64 ((callV fs).ck), .string ((callV fs).nm), .string ((callV fs).dt), .int .i64 ((callV fs).sz), .slice none 0 0]), rR i64 2 u ys]) from Hold.re H68 [4, 0, 1, 2, 3] (by kernel_rfl) (by rfl)).drop
            clear H68
            exact finc  (cs := [.int .i64 0, .int .i64 0, .string ⟨#[]⟩, .string ⟨#[]⟩, .int .i64 0, .slice none 0 0]) Tryd.results33 Tryd.underlying71 rfl ti71 z2 b314 rfl  ⟨_, by rw [hL], by rw [hL]; exact H69⟩
          · have h5 : numsOk (fs.drop 1) = true := by simpa using h40
            have hyv := hys h5
            have hyl : ys.length = fs.length - 1 := by rw [hyv, vals, List.length_map]; exact hdl
            have hvl : (vals (fs.drop 1)).length = ys.length := by rw [hyv]
            refine sk (sq ?_)
            refine jn (α := Unit) (fun _ ρ w' => ρ 2 = .pointer (some ⟨g2, 0, none⟩) ∧ ρ 3 = t ∧ ρ 5 = u ∧ Hold w [] w' [rB g2 71 ([.int .i64 0, .int .i64 0, .string ⟨#[]⟩, .string ⟨#[]⟩, .int .i64 0, .slice none 0 0]), rR kStr 9 t fs, rB g4 71 ([.int .i64 ((callV fs).kind), .int .i64 ((callV fs).ck), .string ((callV fs).nm), .string ((callV fs).dt), .int .i64 ((callV fs).sz), .slice none 0 0]), rR i64 2 u ys] ∧ ¬ (gF fs 0 = kArm ∧ 1 ≤ (vals (fs.drop 1)).length ∧ (1 ≤ v0 (vals (fs.drop 1)) ∧ v0 (vals (fs.drop 1)) ≤ 100000))) ?_ ?_
            · refine sq ?_
              refine gen (fun ρ => ρ 2 = .pointer (some ⟨g2, 0, none⟩) ∧ ρ 3 = t ∧ ρ 5 = u ∧ True) ⟨y2, y3, rfl, trivial⟩ ?_
              rintro ρ ⟨z2, z3, z5, -⟩
              obtain ⟨_, R312⟩ : ∃ F, Kd.R kStr wn F t fs := Hold.row H66 1 rfl
              refine rg (r (mv z3) ?_)
              obtain ⟨c43_313, ad43_313, k43_313, e43_313, p43_313⟩ := Kd.R.place R312 0 ((by omega))
              refine r (ix (j := 0) Tryd.underlying54 ti9 e43_313 rfl ((by omega))) (r (Rn.cast (v' := .string (gF fs 0)) (ld Tryd.underlying9 rfl rfl p43_313.cell) (congrArg Value.string (gd _))) (r (seq rfl rfl) (r (mv rfl) ?_)))
              refine sp 46 rfl (fun h6 => ?_) (fun h6 => ?_)
              · obtain ⟨_, R314⟩ : ∃ F, Kd.R i64 wn F u ys := Hold.row H66 3 rfl
                refine gy rfl rfl rfl (r (mv z5) (gy rfl rfl rfl (r (ln Tryd.underlying23 rfl (R314)) (gy rfl rfl rfl (r (bi rfl rfl rfl) (r (pk rfl rfl) (r (mv rfl) ?_)))))))
                refine sp 51 rfl (fun h7 => ?_) (fun h7 => ?_)
                · refine gy rfl rfl rfl (r (mv z5) (gy rfl rfl rfl ?_))
                  obtain ⟨c53_315, ad53_315, k53_315, e53_315, p53_315⟩ := Kd.R.place R314 0 ((by omega))
                  refine r (ix (j := 0) Tryd.underlying23 ti2 e53_315 rfl ((by omega))) (gy rfl rfl rfl (r (Rn.cast (v' := .int .i64 (v0 (vals (fs.drop 1)))) (ld Tryd.underlying2 rfl rfl p53_315.cell) (congrArg (Value.int .i64) ((gi0 _).trans (by rw [hyv])))) (gy rfl rfl rfl (cl go77 (l6Between) (ac rfl (ac rfl (ac rfl an))) ?_))))
                  rintro r wb316 ⟨rfl, cb316⟩
                  have H67 : Hold w [] wb316 [rB g2 71 ([.int .i64 0, .int .i64 0, .string ⟨#[]⟩, .string ⟨#[]⟩, .int .i64 0, .slice none 0 0]), rR kStr 9 t fs, rB g4 71 ([.int .i64 ((callV fs).kind), .int .i64 ((callV fs).ck), .string ((callV fs).nm), .string ((callV fs).dt), .int .i64 ((callV fs).sz), .slice none 0 0]), rR i64 2 u ys] := Hold.t H66 cb316
                  clear H66
                  clear cb316
                  refine r (pk rfl rfl) (re ?_)
                  refine cp rfl (fun h8 => ?_) (fun h8 => ?_)
                  · refine sq ?_
                    refine gen (fun ρ => ρ 2 = .pointer (some ⟨g2, 0, none⟩) ∧ ρ 3 = t ∧ ρ 5 = u ∧ True) ⟨z2, z3, z5, trivial⟩ ?_
                    rintro ρ ⟨z2, z3, z5, -⟩
                    obtain ⟨_, R318⟩ : ∃ F, Kd.R i64 wb316 F u ys := Hold.row H67 3 rfl
                    have b319 : B wb316 g2 71 ([.int .i64 0, .int .i64 0, .string ⟨#[]⟩, .string ⟨#[]⟩, .int .i64 0, .slice none 0 0]) := Hold.blk H67 0 rfl
                    refine rg (r (mv z5) (r (bd (r := [.int .i64 3, .int .i64 0, .string ⟨#[]⟩, .string ⟨#[]⟩, .int .i64 0, u]) ti71 pl71 (pc rfl (cel1 rfl) (pc rfl (cel1 (R318).oneCell) pn)) rfl) (ef0 (xst (vs := [.int .i64 3, .int .i64 0, .string ⟨#[]⟩, .string ⟨#[]⟩, .int .i64 0, u]) ti71 z2 rfl rfl b319 rfl (Nat.le_of_ble_eq_true rfl) (oc rfl (oc rfl (oc rfl (oc rfl (oc rfl (oc (R318).oneCell on))))))) ?_)))
                    rintro w320 ⟨-, b320, c320⟩
                    have H68 : Hold w [] w320 [rB g2 71 ([.int .i64 3, .int .i64 0, .string ⟨#[]⟩, .string ⟨#[]⟩, .int .i64 0, u]), rR kStr 9 t fs, rB g4 71 ([.int .i64 ((callV fs).kind), .int .i64 ((callV fs).ck), .string ((callV fs).nm), .string ((callV fs).dt), .int .i64 ((callV fs).sz), .slice none 0 0]), rR i64 2 u ys] := Hold.setB H67 0 rfl b320 c320 rfl
                    clear H67
                    clear b320 c320
                    refine re (rt ?_)
                    have hL : lineV xs = mkN 3 (vals (fs.drop 1)) := hV.trans (by unfold lineF; rw [if_neg (fun g => g (by simpa using h2)), if_neg hN1, if_neg (by rw [h5]; simp), if_pos ⟨h6, by omega, h8⟩])
                    have b321 : B w320 g2 71 ([.int .i64 3, .int .i64 0, .string ⟨#[]⟩, .string ⟨#[]⟩, .int .i64 0, u]) := Hold.blk H68 0 rfl
                    have H69 : Hold w [] w320 [rR i64 2 u ys] := (show Hold w [] w320 ([rR i64 2 u ys] ++ [rB g2 71 ([.int .i64 3, .int .i64 0, .string ⟨#[]⟩, .string ⟨#[]⟩, .int .i64 0, u]), rR kStr 9 t fs, rB g4 71 ([.int .i64 ((callV fs).kind), .int .i64 ((callV fs).ck), .string ((callV fs).nm), .string ((callV fs).dt), .int .i64 ((callV fs).sz), .slice none 0 0])]) from Hold.re H68 [3, 0, 1, 2] (by kernel_rfl) (by rfl)).drop
                    clear H68
                    exact finc  (cs := [.int .i64 3, .int .i64 0, .string ⟨#[]⟩, .string ⟨#[]⟩, .int .i64 0, u]) Tryd.results33 Tryd.underlying71 rfl ti71 z2 b321 rfl  ⟨_, by rw [hL], by rw [hL, ← hyv]; exact H69⟩
                  · refine sk ?_
                    exact je () ⟨z2, z3, z5, H67, (fun g => h8 g.2.2)⟩
                · refine gn rfl rfl rfl (gn rfl rfl rfl (gn rfl rfl rfl (gn rfl rfl rfl (r (pk rfl rfl) (re (cf rfl (sk ?_)))))))
                  exact je () ⟨z2, z3, z5, H66, (fun g => by omega)⟩
              · refine gn rfl rfl rfl (gn rfl rfl rfl (gn rfl rfl rfl (r (pk rfl rfl) (r (mv rfl) (gn rfl rfl rfl (gn rfl rfl rfl (gn rfl rfl rfl (gn rfl rfl rfl (r (pk rfl rfl) (re (cf rfl (sk ?_))))))))))))
                exact je () ⟨z2, z3, z5, H66, (fun g => h6 g.1)⟩
            · rintro _ ρ w626 ⟨y2, y3, y5, H126, hN3⟩
              clear H66
              obtain ⟨_, R612⟩ : ∃ F, Kd.R kStr w626 F t fs := Hold.row H126 1 rfl
              refine sq (sq (rg (r (mv y3) ?_)))
              obtain ⟨c60_613, ad60_613, k60_613, e60_613, p60_613⟩ := Kd.R.place R612 0 ((by omega))
              refine r (ix (j := 0) Tryd.underlying54 ti9 e60_613 rfl ((by omega))) (r (Rn.cast (v' := .string (gF fs 0)) (ld Tryd.underlying9 rfl rfl p60_613.cell) (congrArg Value.string (gd _))) (r (seq rfl rfl) (re ?_)))
              refine cp rfl (fun h9 => ?_) (fun h9 => ?_)
              · obtain ⟨_, R614⟩ : ∃ F, Kd.R i64 w626 F u ys := Hold.row H126 3 rfl
                have b615 : B w626 g2 71 ([.int .i64 0, .int .i64 0, .string ⟨#[]⟩, .string ⟨#[]⟩, .int .i64 0, .slice none 0 0]) := Hold.blk H126 0 rfl
                refine sq (rg (r (mv y5) (r (bd (r := [.int .i64 4, .int .i64 0, .string ⟨#[]⟩, .string ⟨#[]⟩, .int .i64 0, u]) ti71 pl71 (pc rfl (cel1 rfl) (pc rfl (cel1 (R614).oneCell) pn)) rfl) (ef0 (xst (vs := [.int .i64 4, .int .i64 0, .string ⟨#[]⟩, .string ⟨#[]⟩, .int .i64 0, u]) ti71 y2 rfl rfl b615 rfl (Nat.le_of_ble_eq_true rfl) (oc rfl (oc rfl (oc rfl (oc rfl (oc rfl (oc (R614).oneCell on))))))) ?_))))
                rintro w616 ⟨-, b616, c616⟩
                have H127 : Hold w [] w616 [rB g2 71 ([.int .i64 4, .int .i64 0, .string ⟨#[]⟩, .string ⟨#[]⟩, .int .i64 0, u]), rR kStr 9 t fs, rB g4 71 ([.int .i64 ((callV fs).kind), .int .i64 ((callV fs).ck), .string ((callV fs).nm), .string ((callV fs).dt), .int .i64 ((callV fs).sz), .slice none 0 0]), rR i64 2 u ys] := Hold.setB H126 0 rfl b616 c616 rfl
                clear H126
                clear b616 c616
                refine re (rt ?_)
                have hL : lineV xs = mkN 4 (vals (fs.drop 1)) := hV.trans (by unfold lineF; rw [if_neg (fun g => g (by simpa using h2)), if_neg hN1, if_neg (by rw [h5]; simp), if_neg hN3, if_pos h9])
                have b617 : B w616 g2 71 ([.int .i64 4, .int .i64 0, .string ⟨#[]⟩, .string ⟨#[]⟩, .int .i64 0, u]) := Hold.blk H127 0 rfl
                have H128 : Hold w [] w616 [rR i64 2 u ys] := (show Hold w [] w616 ([rR i64 2 u ys] ++ [rB g2 71 ([.int .i64 4, .int .i64 0, .string ⟨#[]⟩, .string ⟨#[]⟩, .int .i64 0, u]), rR kStr 9 t fs, rB g4 71 ([.int .i64 ((callV fs).kind), .int .i64 ((callV fs).ck), .string ((callV fs).nm), .string ((callV fs).dt), .int .i64 ((callV fs).sz), .slice none 0 0])]) from Hold.re H127 [3, 0, 1, 2] (by kernel_rfl) (by rfl)).drop
                clear H127
                exact finc  (cs := [.int .i64 4, .int .i64 0, .string ⟨#[]⟩, .string ⟨#[]⟩, .int .i64 0, u]) Tryd.results33 Tryd.underlying71 rfl ti71 y2 b617 rfl  ⟨_, by rw [hL], by rw [hL, ← hyv]; exact H128⟩
              · refine sk (sq ?_)
                refine jn (α := Unit) (fun _ ρ w' => ρ 2 = .pointer (some ⟨g2, 0, none⟩) ∧ Hold w [] w' [rB g2 71 ([.int .i64 0, .int .i64 0, .string ⟨#[]⟩, .string ⟨#[]⟩, .int .i64 0, .slice none 0 0]), rR kStr 9 t fs, rB g4 71 ([.int .i64 ((callV fs).kind), .int .i64 ((callV fs).ck), .string ((callV fs).nm), .string ((callV fs).dt), .int .i64 ((callV fs).sz), .slice none 0 0]), rR i64 2 u ys] ∧ ¬ (gF fs 0 = kFlip ∧ (vals (fs.drop 1)).length = 2 ∧ (0 ≤ v0 (vals (fs.drop 1)) ∧ v0 (vals (fs.drop 1)) ≤ 99999) ∧ (1 ≤ v1 (vals (fs.drop 1)) ∧ v1 (vals (fs.drop 1)) ≤ 255))) ?_ ?_
                · refine sq (rg (r (mv y3) ?_))
                  obtain ⟨c66_614, ad66_614, k66_614, e66_614, p66_614⟩ := Kd.R.place R612 0 ((by omega))
                  refine r (ix (j := 0) Tryd.underlying54 ti9 e66_614 rfl ((by omega))) (r (Rn.cast (v' := .string (gF fs 0)) (ld Tryd.underlying9 rfl rfl p66_614.cell) (congrArg Value.string (gd _))) (r (seq rfl rfl) (r (mv rfl) ?_)))
                  refine sp 69 rfl (fun h6 => ?_) (fun h6 => ?_)
                  · obtain ⟨_, R615⟩ : ∃ F, Kd.R i64 w626 F u ys := Hold.row H126 3 rfl
                    refine gy rfl rfl rfl (r (mv y5) (gy rfl rfl rfl (r (ln Tryd.underlying23 rfl (R615)) (gy rfl rfl rfl (r (bi rfl rfl rfl) (r (pk rfl rfl) (r (mv rfl) ?_)))))))
                    refine sp 74 rfl (fun h7 => ?_) (fun h7 => ?_)
                    · refine gy rfl rfl rfl (r (mv y5) (gy rfl rfl rfl ?_))
                      obtain ⟨c76_616, ad76_616, k76_616, e76_616, p76_616⟩ := Kd.R.place R615 0 ((by omega))
                      refine r (ix (j := 0) Tryd.underlying23 ti2 e76_616 rfl ((by omega))) (gy rfl rfl rfl (r (Rn.cast (v' := .int .i64 (v0 (vals (fs.drop 1)))) (ld Tryd.underlying2 rfl rfl p76_616.cell) (congrArg (Value.int .i64) ((gi0 _).trans (by rw [hyv])))) (gy rfl rfl rfl (cl go77 (l6Between) (ac rfl (ac rfl (ac rfl an))) ?_))))
                      rintro r wb617 ⟨rfl, cb617⟩
                      have H127 : Hold w [] wb617 [rB g2 71 ([.int .i64 0, .int .i64 0, .string ⟨#[]⟩, .string ⟨#[]⟩, .int .i64 0, .slice none 0 0]), rR kStr 9 t fs, rB g4 71 ([.int .i64 ((callV fs).kind), .int .i64 ((callV fs).ck), .string ((callV fs).nm), .string ((callV fs).dt), .int .i64 ((callV fs).sz), .slice none 0 0]), rR i64 2 u ys] := Hold.t H126 cb617
                      clear H126
                      clear cb617
                      refine r (pk rfl rfl) (r (mv rfl) ?_)
                      refine sp 80 rfl (fun h8 => ?_) (fun h8 => ?_)
                      · obtain ⟨_, R619⟩ : ∃ F, Kd.R i64 wb617 F u ys := Hold.row H127 3 rfl
                        refine gy rfl rfl rfl (r (mv y5) (gy rfl rfl rfl ?_))
                        obtain ⟨c82_620, ad82_620, k82_620, e82_620, p82_620⟩ := Kd.R.place R619 1 ((by omega))
                        refine r (ix (j := 1) Tryd.underlying23 ti2 e82_620 rfl ((by omega))) (gy rfl rfl rfl (r (Rn.cast (v' := .int .i64 (v1 (vals (fs.drop 1)))) (ld Tryd.underlying2 rfl rfl p82_620.cell) (congrArg (Value.int .i64) ((gi1 _).trans (by rw [hyv])))) (gy rfl rfl rfl (cl go77 (l6Between) (ac rfl (ac rfl (ac rfl an))) ?_))))
                        rintro r wb621 ⟨rfl, cb621⟩
                        have H128 : Hold w [] wb621 [rB g2 71 ([.int .i64 0, .int .i64 0, .string ⟨#[]⟩, .string ⟨#[]⟩, .int .i64 0, .slice none 0 0]), rR kStr 9 t fs, rB g4 71 ([.int .i64 ((callV fs).kind), .int .i64 ((callV fs).ck), .string ((callV fs).nm), .string ((callV fs).dt), .int .i64 ((callV fs).sz), .slice none 0 0]), rR i64 2 u ys] := Hold.t H127 cb621
                        clear H127
                        clear cb621
                        refine r (pk rfl rfl) (re ?_)
                        refine cp rfl (fun h10 => ?_) (fun h10 => ?_)
                        · refine sq ?_
                          refine gen (fun ρ => ρ 2 = .pointer (some ⟨g2, 0, none⟩) ∧ ρ 5 = u ∧ True) ⟨y2, y5, trivial⟩ ?_
                          rintro ρ ⟨z2, z5, -⟩
                          obtain ⟨_, R623⟩ : ∃ F, Kd.R i64 wb621 F u ys := Hold.row H128 3 rfl
                          have b624 : B wb621 g2 71 ([.int .i64 0, .int .i64 0, .string ⟨#[]⟩, .string ⟨#[]⟩, .int .i64 0, .slice none 0 0]) := Hold.blk H128 0 rfl
                          refine rg (r (mv z5) (r (bd (r := [.int .i64 5, .int .i64 0, .string ⟨#[]⟩, .string ⟨#[]⟩, .int .i64 0, u]) ti71 pl71 (pc rfl (cel1 rfl) (pc rfl (cel1 (R623).oneCell) pn)) rfl) (ef0 (xst (vs := [.int .i64 5, .int .i64 0, .string ⟨#[]⟩, .string ⟨#[]⟩, .int .i64 0, u]) ti71 z2 rfl rfl b624 rfl (Nat.le_of_ble_eq_true rfl) (oc rfl (oc rfl (oc rfl (oc rfl (oc rfl (oc (R623).oneCell on))))))) ?_)))
                          rintro w625 ⟨-, b625, c625⟩
                          have H129 : Hold w [] w625 [rB g2 71 ([.int .i64 5, .int .i64 0, .string ⟨#[]⟩, .string ⟨#[]⟩, .int .i64 0, u]), rR kStr 9 t fs, rB g4 71 ([.int .i64 ((callV fs).kind), .int .i64 ((callV fs).ck), .string ((callV fs).nm), .string ((callV fs).dt), .int .i64 ((callV fs).sz), .slice none 0 0]), rR i64 2 u ys] := Hold.setB H128 0 rfl b625 c625 rfl
                          clear H128
                          clear b625 c625
                          refine re (rt ?_)
                          have hL : lineV xs = mkN 5 (vals (fs.drop 1)) := hV.trans (by unfold lineF; rw [if_neg (fun g => g (by simpa using h2)), if_neg hN1, if_neg (by rw [h5]; simp), if_neg hN3, if_neg h9, if_pos ⟨h6, by omega, h8, h10⟩])
                          have b626 : B w625 g2 71 ([.int .i64 5, .int .i64 0, .string ⟨#[]⟩, .string ⟨#[]⟩, .int .i64 0, u]) := Hold.blk H129 0 rfl
                          have H130 : Hold w [] w625 [rR i64 2 u ys] := (show Hold w [] w625 ([rR i64 2 u ys] ++ [rB g2 71 ([.int .i64 5, .int .i64 0, .string ⟨#[]⟩, .string ⟨#[]⟩, .int .i64 0, u]), rR kStr 9 t fs, rB g4 71 ([.int .i64 ((callV fs).kind), .int .i64 ((callV fs).ck), .string ((callV fs).nm), .string ((callV fs).dt), .int .i64 ((callV fs).sz), .slice none 0 0])]) from Hold.re H129 [3, 0, 1, 2] (by kernel_rfl) (by rfl)).drop
                          clear H129
                          exact finc  (cs := [.int .i64 5, .int .i64 0, .string ⟨#[]⟩, .string ⟨#[]⟩, .int .i64 0, u]) Tryd.results33 Tryd.underlying71 rfl ti71 z2 b626 rfl  ⟨_, by rw [hL], by rw [hL, ← hyv]; exact H130⟩
                        · refine sk ?_
                          exact je () ⟨y2, H128, (fun g => h10 g.2.2.2)⟩
                      · refine gn rfl rfl rfl (gn rfl rfl rfl (gn rfl rfl rfl (gn rfl rfl rfl (r (pk rfl rfl) (re (cf rfl (sk ?_)))))))
                        exact je () ⟨y2, H127, (fun g => h8 g.2.2.1)⟩
                    · refine gn rfl rfl rfl (gn rfl rfl rfl (gn rfl rfl rfl (gn rfl rfl rfl (r (pk rfl rfl) (r (mv rfl) (gn rfl rfl rfl (gn rfl rfl rfl (gn rfl rfl rfl (gn rfl rfl rfl (r (pk rfl rfl) (re (cf rfl (sk ?_)))))))))))))
                      exact je () ⟨y2, H126, (fun g => by omega)⟩
                  · refine gn rfl rfl rfl (gn rfl rfl rfl (gn rfl rfl rfl (r (pk rfl rfl) (r (mv rfl) (gn rfl rfl rfl (gn rfl rfl rfl (gn rfl rfl rfl (gn rfl rfl rfl (r (pk rfl rfl) (r (mv rfl) (gn rfl rfl rfl (gn rfl rfl rfl (gn rfl rfl rfl (gn rfl rfl rfl (r (pk rfl rfl) (re (cf rfl (sk ?_))))))))))))))))))
                    exact je () ⟨y2, H126, (fun g => h6 g.1)⟩
                · rintro _ ρ w686 ⟨y2, H186, hN5⟩
                  clear H126
                  have b914 : B w686 g2 71 ([.int .i64 0, .int .i64 0, .string ⟨#[]⟩, .string ⟨#[]⟩, .int .i64 0, .slice none 0 0]) := Hold.blk H186 0 rfl
                  refine sq (rg (r (bd (r := [.int .i64 0, .int .i64 0, .string ⟨#[]⟩, .string ⟨#[]⟩, .int .i64 0, .slice none 0 0]) ti71 pl71 pn rfl) (ef0 (xst (vs := [.int .i64 0, .int .i64 0, .string ⟨#[]⟩, .string ⟨#[]⟩, .int .i64 0, .slice none 0 0]) ti71 y2 rfl rfl b914 rfl (Nat.le_of_ble_eq_true rfl) (one_all rfl)) ?_)))
                  rintro w915 ⟨-, b915, c915⟩
                  have H187 : Hold w [] w915 [rB g2 71 ([.int .i64 0, .int .i64 0, .string ⟨#[]⟩, .string ⟨#[]⟩, .int .i64 0, .slice none 0 0]), rR kStr 9 t fs, rB g4 71 ([.int .i64 ((callV fs).kind), .int .i64 ((callV fs).ck), .string ((callV fs).nm), .string ((callV fs).dt), .int .i64 ((callV fs).sz), .slice none 0 0]), rR i64 2 u ys] := Hold.setB H186 0 rfl b915 c915 rfl
                  clear H186
                  clear b915 c915
                  refine re (rt ?_)
                  have hL : lineV xs = badL := hV.trans (by unfold lineF; rw [if_neg (fun g => g (by simpa using h2)), if_neg hN1, if_neg (by rw [h5]; simp), if_neg hN3, if_neg h9, if_neg hN5])
                  have H188 : Hold w [] w915 [rB g2 71 ([.int .i64 0, .int .i64 0, .string ⟨#[]⟩, .string ⟨#[]⟩, .int .i64 0, .slice none 0 0]), rR kStr 9 t fs, rB g4 71 ([.int .i64 ((callV fs).kind), .int .i64 ((callV fs).ck), .string ((callV fs).nm), .string ((callV fs).dt), .int .i64 ((callV fs).sz), .slice none 0 0]), rR i64 2 u ys, rR i64 2 (.slice none 0 0) ([])] := Hold.nilrow i64 2 H187
                  clear H187
                  have b916 : B w915 g2 71 ([.int .i64 0, .int .i64 0, .string ⟨#[]⟩, .string ⟨#[]⟩, .int .i64 0, .slice none 0 0]) := Hold.blk H188 0 rfl
                  have H189 : Hold w [] w915 [rR i64 2 (.slice none 0 0) ([])] := (show Hold w [] w915 ([rR i64 2 (.slice none 0 0) ([])] ++ [rB g2 71 ([.int .i64 0, .int .i64 0, .string ⟨#[]⟩, .string ⟨#[]⟩, .int .i64 0, .slice none 0 0]), rR kStr 9 t fs, rB g4 71 ([.int .i64 ((callV fs).kind), .int .i64 ((callV fs).ck), .string ((callV fs).nm), .string ((callV fs).dt), .int .i64 ((callV fs).sz), .slice none 0 0]), rR i64 2 u ys]) from Hold.re H188 [4, 0, 1, 2, 3] (by kernel_rfl) (by rfl)).drop
                  clear H188
                  exact finc  (cs := [.int .i64 0, .int .i64 0, .string ⟨#[]⟩, .string ⟨#[]⟩, .int .i64 0, .slice none 0 0]) Tryd.results33 Tryd.underlying71 rfl ti71 y2 b916 rfl  ⟨_, by rw [hL], by rw [hL]; exact H189⟩
end Go.Proofs.YtgpcanjmgdmdhaaDoor
