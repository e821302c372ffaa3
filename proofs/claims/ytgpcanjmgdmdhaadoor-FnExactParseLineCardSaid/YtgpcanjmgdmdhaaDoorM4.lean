/-
  SEVERAL TEXTS OF MY OWN IN ONE: 82, 83. No condition.
-/
import Derived.Test.YtgpcanjmgdmdhaaDoorM3
import Derived.Test.YtgpcanjmgdmdhaaDoorM2
import Derived.Test.YtgpcanjmgdmdhaaDoor22
namespace Go.Proofs.YtgpcanjmgdmdhaaDoor
open Go Go.Eng
set_option maxRecDepth 100000
set_option maxHeartbeats 4000000
set_option linter.unusedVariables false
set_option linter.unusedSimpArgs false
theorem ba_nil_ {s : ByteArray} (h : s.size = 0) : s = (⟨#[]⟩ : ByteArray) := by
  apply ba_ext
  exact List.eq_nil_of_length_eq_zero (by rw [Array.length_toList]; exact h)
theorem parseWrite_fs {w : World} {F : List Nat} {g : Nat} {fs : List ByteArray} (h3 : fs.length = 3) (h : Hs w [rR kStr 9 (.slice (some ⟨g, 0, none⟩) fs.length fs.length) fs] F) (nd : F.Nodup) : Ret Tryd.prog 106 #[slv (.slice (some ⟨g, 0, none⟩) fs.length fs.length) 1 fs.length 1] w (fun r w' => ∃ l ok u, r = .tuple #[lineVal l u, .bool ok] ∧ (if ok = true then l else badL) = lineF (kWrite :: fs.drop 1) ∧ Hold w F w' [rR i64 2 u l.ns]) := by
  match fs, h3, h with
  | [a, b, c], _, h =>
    have e : slv (.slice (some ⟨g, 0, none⟩) [a, b, c].length [a, b, c].length) 1 [a, b, c].length 1 = .slice (some ⟨g, 1, none⟩) 2 2 := by
      show slv (.slice (some ⟨g, 0, none⟩) 3 3) 1 3 1 = _
      rw [slv_blk]; rfl
    rw [e]
    exact parseWrite_yes h nd
theorem cons_eq {fs : List ByteArray} (h : 0 < fs.length) : fs = gF fs 0 :: fs.drop 1 := by
  cases fs with
  | nil => simp at h
  | cons f gs => rfl
theorem impl_ParseLine {w : World} {F : List Nat} {v : Value} {xs : List Int} {m : Int} (hx : u8.R w F v xs) (lx : xs.length ≤ 2000000) (ok : ok8 xs) (hm : w.cell? ⟨1, 0, none⟩ = some (.int .i64 m)) : Ret Tryd.prog 34 #[v] w (fun r w' => ∃ u, r = lineVal (lineV xs) u ∧ Hold w [] w' [rR i64 2 u (lineV xs).ns]) := by
  obtain ⟨fs, hfs⟩ : ∃ fs, fs = cutF xs := ⟨_, rfl⟩
  have hsz := cutF_size (xs := xs)
  have hlen := cutF_len xs
  have hne : 0 < fs.length := by
    rw [hfs, cutF, List.length_map]
    exact List.length_pos_iff.2 (cutL_ne _ _)
  rw [← hfs] at hsz hlen
  have hmk : cutF (nums8 (mkS xs)) = fs := by rw [nums8_mkS ok, hfs]
  refine enter Tryd.func34 rfl Tryd.ntmps34 (by rfl) (by rfl) ?_
  have H0 : Hold w [] w [] := Hold.start w
  refine sq (rg (ef (xal ti71) ?_))
  rintro _ w1 ⟨g2, e1, rfl, -, b1, c1⟩
  have H1 : Hold w [] w1 [rB g2 71 ([.int .i64 0, .int .i64 0, .string ⟨#[]⟩, .string ⟨#[]⟩, .int .i64 0, .slice none 0 0])] := Hold.newB H0 e1 b1 c1
  clear H0
  clear e1 b1 c1
  refine re (sq (sq (rg (r (mv rfl) (r (ln Tryd.underlying22 rfl ((hx.t (Hold.ch H1)))) (r (bi rfl rfl rfl) (re ?_)))))))
  refine cp rfl (fun h0 => ?_) (fun h0 => ?_)
  · have hL : lineV xs = badL := by unfold lineV; rw [if_pos (by omega)]
    have b2 : B w1 g2 71 ([.int .i64 0, .int .i64 0, .string ⟨#[]⟩, .string ⟨#[]⟩, .int .i64 0, .slice none 0 0]) := Hold.blk H1 0 rfl
    refine sq (rg (r (bd (r := [.int .i64 0, .int .i64 0, .string ⟨#[]⟩, .string ⟨#[]⟩, .int .i64 0, .slice none 0 0]) ti71 pl71 pn rfl) (ef0 (xst (vs := [.int .i64 0, .int .i64 0, .string ⟨#[]⟩, .string ⟨#[]⟩, .int .i64 0, .slice none 0 0]) ti71 rfl rfl rfl b2 rfl (Nat.le_of_ble_eq_true rfl) (one_all rfl)) ?_)))
    rintro w3 ⟨-, b3, c3⟩
    have H2 : Hold w [] w3 [rB g2 71 ([.int .i64 0, .int .i64 0, .string ⟨#[]⟩, .string ⟨#[]⟩, .int .i64 0, .slice none 0 0])] := Hold.setB H1 0 rfl b3 c3 rfl
    clear H1
    clear b3 c3
    refine re (rt ?_)
    have H3 : Hold w [] w3 [rB g2 71 ([.int .i64 0, .int .i64 0, .string ⟨#[]⟩, .string ⟨#[]⟩, .int .i64 0, .slice none 0 0]), rR i64 2 (.slice none 0 0) ([])] := Hold.nilrow i64 2 H2
    clear H2
    have b4 : B w3 g2 71 ([.int .i64 0, .int .i64 0, .string ⟨#[]⟩, .string ⟨#[]⟩, .int .i64 0, .slice none 0 0]) := Hold.blk H3 0 rfl
    have H4 : Hold w [] w3 [rR i64 2 (.slice none 0 0) ([])] := (show Hold w [] w3 ([rR i64 2 (.slice none 0 0) ([])] ++ [rB g2 71 ([.int .i64 0, .int .i64 0, .string ⟨#[]⟩, .string ⟨#[]⟩, .int .i64 0, .slice none 0 0])]) from Hold.re H3 [1, 0] (by kernel_rfl) (by rfl)).drop
    clear H3
    exact finc  (cs := [.int .i64 0, .int .i64 0, .string ⟨#[]⟩, .string ⟨#[]⟩, .int .i64 0, .slice none 0 0]) Tryd.results34 Tryd.underlying71 rfl ti71 rfl b4 rfl  ⟨_, by rw [hL], by rw [hL]; exact H4⟩
  · refine sk (sq (rg (r (mv rfl) (r (cvbs Tryd.underlying22 Tryd.underlying5 Tryd.underlying9 (hx.t (Hold.ch H1)) rfl) (cl go78 (Split_ (s := mkS xs) (by rw [mkS_size]; omega) (Ch.cell (Hold.ch H1) hm)) (ac rfl (ac rfl an)) ?_)))))
    rintro r ws ⟨gv, er, Hs⟩
    rw [hmk] at er Hs
    subst er
    have H2 : Hold w [] ws [rB g2 71 ([.int .i64 0, .int .i64 0, .string ⟨#[]⟩, .string ⟨#[]⟩, .int .i64 0, .slice none 0 0]), rR kStr 9 (.slice (some ⟨gv, 0, none⟩) fs.length fs.length) fs] := Hold.news H1 Hs
    clear H1
    clear Hs
    obtain ⟨_, R3⟩ : ∃ F, Kd.R kStr ws F (.slice (some ⟨gv, 0, none⟩) fs.length fs.length) fs := Hold.row H2 1 rfl
    refine r (sa rfl) (re (sq (sq (rg (r (mv rfl) (r (ln Tryd.underlying54 rfl (R3)) (r (mv rfl) (re (bl ?_)))))))))
    have hbad : ∀ (i : Nat) (hi : i < fs.length), ¬ goodF fs[i] → lineV xs = badL := fun i hi hn => by
      unfold lineV; rw [if_neg (by omega), fieldsF_no (f := fs[i]) (by rw [← hfs]; exact List.getElem_mem hi) hn]; rfl
    refine lp (α := Nat) (fun i ρ w' => ρ 3 = .slice (some ⟨gv, 0, none⟩) fs.length fs.length ∧ ρ 18 = .slice (some ⟨gv, 0, none⟩) fs.length fs.length ∧ ρ 19 = .int .i64 (fs.length : Int) ∧ ρ 20 = .int .i64 (i : Int) ∧ ρ 2 = .pointer (some ⟨g2, 0, none⟩) ∧ Hold w [] w' [rB g2 71 ([.int .i64 0, .int .i64 0, .string ⟨#[]⟩, .string ⟨#[]⟩, .int .i64 0, .slice none 0 0]), rR kStr 9 (.slice (some ⟨gv, 0, none⟩) fs.length fs.length) fs] ∧ i ≤ fs.length ∧ ∀ j (hj : j < fs.length), j < i → goodF fs[j]) (fun i => fs.length - i) 0 ?_ ?_
    · exact ⟨rfl, rfl, rfl, rfl, rfl, H2, ⟨by omega, fun j _ h => absurd h (by omega)⟩⟩
    clear H2
    rintro i ρ w503 ⟨y3, y18, y19, y20, y2, H3, hi, hg⟩
    refine sq (rg (r (bi y20 y19 rfl) (re (sq ?_))))
    refine cp rfl (fun h => ?_) (fun h => ?_)
    · have hi' : i < fs.length := by omega
      have hz := hsz _ (List.getElem_mem hi')
      obtain ⟨_, R4⟩ : ∃ F, Kd.R kStr w503 F (.slice (some ⟨gv, 0, none⟩) fs.length fs.length) fs := Hold.row H3 1 rfl
      refine sk (sq (bl (sq (rg ?_))))
      obtain ⟨c22_5, ad22_5, k22_5, e22_5, p22_5⟩ := Kd.R.place R4 i (by omega)
      refine r (ix (j := i) Tryd.underlying54 ti9 (y18.trans e22_5) y20 (by omega)) (r (ld Tryd.underlying9 rfl rfl p22_5.cell) (r (sa rfl) (re (sq (sq (rg (r (mv rfl) (r (lns Tryd.underlying9 rfl) (r (mv rfl) (re (bl ?_)))))))))))
      refine lp (α := Nat) (fun j ρ w' => ρ 3 = .slice (some ⟨gv, 0, none⟩) fs.length fs.length ∧ ρ 18 = .slice (some ⟨gv, 0, none⟩) fs.length fs.length ∧ ρ 19 = .int .i64 (fs.length : Int) ∧ ρ 20 = .int .i64 (i : Int) ∧ ρ 2 = .pointer (some ⟨g2, 0, none⟩) ∧ ρ 5 = .string (fs[i]) ∧ ρ 25 = .int .i64 (fs[i].size : Int) ∧ ρ 26 = .int .i64 (j : Int) ∧ Hold w [] w' [rB g2 71 ([.int .i64 0, .int .i64 0, .string ⟨#[]⟩, .string ⟨#[]⟩, .int .i64 0, .slice none 0 0]), rR kStr 9 (.slice (some ⟨gv, 0, none⟩) fs.length fs.length) fs] ∧ j ≤ fs[i].size ∧ ∀ m (hm : m < (nums8 fs[i]).length), m < j → 33 ≤ (nums8 fs[i])[m] ∧ (nums8 fs[i])[m] ≤ 126) (fun j => fs[i].size - j) 0 ?_ ?_
      · exact ⟨y3, y18, y19, y20, y2, rfl, rfl, rfl, H3, ⟨by omega, fun m _ h => absurd h (by omega)⟩⟩
      clear H3
      rintro j ρ w504 ⟨y3, y18, y19, y20, y2, y5, y25, y26, H4, hj, hb⟩
      refine sq (rg (r (bi y26 y25 rfl) (re (sq ?_))))
      refine cp rfl (fun h2 => ?_) (fun h2 => ?_)
      · have hj' : j < fs[i].size := by omega
        have hj2 : j < (nums8 fs[i]).length := by rw [nums8_len]; exact hj'
        refine sk (sq (bl (sq (rg (r (mv y26) (r (sa rfl) (re (sq (rg (r (mv y5) (r (mv rfl) (r (six (j := j) Tryd.underlying9 rfl rfl (by omega)) (r (bi rfl rfl rfl) (r (mv rfl) ?_))))))))))))))
        refine sp 33 rfl (fun h3 => ?_) (fun h3 => ?_)
        · have hL := hbad i hi' (fun g => by have := g.2 _ (List.getElem_mem hj2); omega)
          refine gn rfl rfl rfl (gn rfl rfl rfl (gn rfl rfl rfl (gn rfl rfl rfl (r (pk rfl rfl) (re (ct rfl (sq ?_)))))))
          refine gen (fun ρ => ρ 2 = .pointer (some ⟨g2, 0, none⟩) ∧ ρ 3 = .slice (some ⟨gv, 0, none⟩) fs.length fs.length ∧ ρ 5 = .string (fs[i]) ∧ ρ 18 = .slice (some ⟨gv, 0, none⟩) fs.length fs.length ∧ ρ 19 = .int .i64 (fs.length : Int) ∧ ρ 20 = .int .i64 (i : Int) ∧ ρ 25 = .int .i64 (fs[i].size : Int) ∧ ρ 26 = .int .i64 (j : Int) ∧ True) ⟨y2, y3, y5, y18, y19, y20, y25, y26, trivial⟩ ?_
          rintro ρ ⟨z2, z3, z5, z18, z19, z20, z25, z26, -⟩
          have b6 : B w504 g2 71 ([.int .i64 0, .int .i64 0, .string ⟨#[]⟩, .string ⟨#[]⟩, .int .i64 0, .slice none 0 0]) := Hold.blk H4 0 rfl
          refine rg (r (bd (r := [.int .i64 0, .int .i64 0, .string ⟨#[]⟩, .string ⟨#[]⟩, .int .i64 0, .slice none 0 0]) ti71 pl71 pn rfl) (ef0 (xst (vs := [.int .i64 0, .int .i64 0, .string ⟨#[]⟩, .string ⟨#[]⟩, .int .i64 0, .slice none 0 0]) ti71 z2 rfl rfl b6 rfl (Nat.le_of_ble_eq_true rfl) (one_all rfl)) ?_))
          rintro w7 ⟨-, b7, c7⟩
          have H5 : Hold w [] w7 [rB g2 71 ([.int .i64 0, .int .i64 0, .string ⟨#[]⟩, .string ⟨#[]⟩, .int .i64 0, .slice none 0 0]), rR kStr 9 (.slice (some ⟨gv, 0, none⟩) fs.length fs.length) fs] := Hold.setB H4 0 rfl b7 c7 rfl
          clear H4
          clear b7 c7
          refine re (rt ?_)
          have H6 : Hold w [] w7 [rB g2 71 ([.int .i64 0, .int .i64 0, .string ⟨#[]⟩, .string ⟨#[]⟩, .int .i64 0, .slice none 0 0]), rR kStr 9 (.slice (some ⟨gv, 0, none⟩) fs.length fs.length) fs, rR i64 2 (.slice none 0 0) ([])] := Hold.nilrow i64 2 H5
          clear H5
          have b8 : B w7 g2 71 ([.int .i64 0, .int .i64 0, .string ⟨#[]⟩, .string ⟨#[]⟩, .int .i64 0, .slice none 0 0]) := Hold.blk H6 0 rfl
          have H7 : Hold w [] w7 [rR i64 2 (.slice none 0 0) ([])] := (show Hold w [] w7 ([rR i64 2 (.slice none 0 0) ([])] ++ [rB g2 71 ([.int .i64 0, .int .i64 0, .string ⟨#[]⟩, .string ⟨#[]⟩, .int .i64 0, .slice none 0 0]), rR kStr 9 (.slice (some ⟨gv, 0, none⟩) fs.length fs.length) fs]) from Hold.re H6 [2, 0, 1] (by kernel_rfl) (by rfl)).drop
          clear H6
          exact finc  (cs := [.int .i64 0, .int .i64 0, .string ⟨#[]⟩, .string ⟨#[]⟩, .int .i64 0, .slice none 0 0]) Tryd.results34 Tryd.underlying71 rfl ti71 z2 b8 rfl  ⟨_, by rw [hL], by rw [hL]; exact H7⟩
        · refine gy rfl rfl rfl (r (mv y5) (gy rfl rfl rfl (r (mv rfl) (gy rfl rfl rfl (r (six (j := j) Tryd.underlying9 rfl rfl (by omega)) (gy rfl rfl rfl (r (bi rfl rfl rfl) (r (pk rfl rfl) (re ?_)))))))))
          refine cp rfl (fun h4 => ?_) (fun h4 => ?_)
          · have hL := hbad i hi' (fun g => by have := g.2 _ (List.getElem_mem hj2); omega)
            refine sq ?_
            refine gen (fun ρ => ρ 2 = .pointer (some ⟨g2, 0, none⟩) ∧ ρ 3 = .slice (some ⟨gv, 0, none⟩) fs.length fs.length ∧ ρ 5 = .string (fs[i]) ∧ ρ 18 = .slice (some ⟨gv, 0, none⟩) fs.length fs.length ∧ ρ 19 = .int .i64 (fs.length : Int) ∧ ρ 20 = .int .i64 (i : Int) ∧ ρ 25 = .int .i64 (fs[i].size : Int) ∧ ρ 26 = .int .i64 (j : Int) ∧ True) ⟨y2, y3, y5, y18, y19, y20, y25, y26, trivial⟩ ?_
            rintro ρ ⟨z2, z3, z5, z18, z19, z20, z25, z26, -⟩
            have b6 : B w504 g2 71 ([.int .i64 0, .int .i64 0, .string ⟨#[]⟩, .string ⟨#[]⟩, .int .i64 0, .slice none 0 0]) := Hold.blk H4 0 rfl
            refine rg (r (bd (r := [.int .i64 0, .int .i64 0, .string ⟨#[]⟩, .string ⟨#[]⟩, .int .i64 0, .slice none 0 0]) ti71 pl71 pn rfl) (ef0 (xst (vs := [.int .i64 0, .int .i64 0, .string ⟨#[]⟩, .string ⟨#[]⟩, .int .i64 0, .slice none 0 0]) ti71 z2 rfl rfl b6 rfl (Nat.le_of_ble_eq_true rfl) (one_all rfl)) ?_))
            rintro w7 ⟨-, b7, c7⟩
            have H5 : Hold w [] w7 [rB g2 71 ([.int .i64 0, .int .i64 0, .string ⟨#[]⟩, .string ⟨#[]⟩, .int .i64 0, .slice none 0 0]), rR kStr 9 (.slice (some ⟨gv, 0, none⟩) fs.length fs.length) fs] := Hold.setB H4 0 rfl b7 c7 rfl
            clear H4
            clear b7 c7
            refine re (rt ?_)
            have H6 : Hold w [] w7 [rB g2 71 ([.int .i64 0, .int .i64 0, .string ⟨#[]⟩, .string ⟨#[]⟩, .int .i64 0, .slice none 0 0]), rR kStr 9 (.slice (some ⟨gv, 0, none⟩) fs.length fs.length) fs, rR i64 2 (.slice none 0 0) ([])] := Hold.nilrow i64 2 H5
            clear H5
            have b8 : B w7 g2 71 ([.int .i64 0, .int .i64 0, .string ⟨#[]⟩, .string ⟨#[]⟩, .int .i64 0, .slice none 0 0]) := Hold.blk H6 0 rfl
            have H7 : Hold w [] w7 [rR i64 2 (.slice none 0 0) ([])] := (show Hold w [] w7 ([rR i64 2 (.slice none 0 0) ([])] ++ [rB g2 71 ([.int .i64 0, .int .i64 0, .string ⟨#[]⟩, .string ⟨#[]⟩, .int .i64 0, .slice none 0 0]), rR kStr 9 (.slice (some ⟨gv, 0, none⟩) fs.length fs.length) fs]) from Hold.re H6 [2, 0, 1] (by kernel_rfl) (by rfl)).drop
            clear H6
            exact finc  (cs := [.int .i64 0, .int .i64 0, .string ⟨#[]⟩, .string ⟨#[]⟩, .int .i64 0, .slice none 0 0]) Tryd.results34 Tryd.underlying71 rfl ti71 z2 b8 rfl  ⟨_, by rw [hL], by rw [hL]; exact H7⟩
          · refine sk (be ?_)
            refine gen (fun ρ => ρ 2 = .pointer (some ⟨g2, 0, none⟩) ∧ ρ 3 = .slice (some ⟨gv, 0, none⟩) fs.length fs.length ∧ ρ 5 = .string (fs[i]) ∧ ρ 18 = .slice (some ⟨gv, 0, none⟩) fs.length fs.length ∧ ρ 19 = .int .i64 (fs.length : Int) ∧ ρ 20 = .int .i64 (i : Int) ∧ ρ 25 = .int .i64 (fs[i].size : Int) ∧ ρ 26 = .int .i64 (j : Int) ∧ True) ⟨y2, y3, y5, y18, y19, y20, y25, y26, trivial⟩ ?_
            rintro ρ ⟨z2, z3, z5, z18, z19, z20, z25, z26, -⟩
            refine rg (r (ad (a := (j : Int)) (b := 1) ((j : Int) + 1) z26 rfl (by omega)) (r (mv rfl) (re ?_)))
            exact ag (j + 1) ⟨z3, z18, z19, z20, z2, z5, z25, rfl, H4, ⟨by omega, fun m hm hlt => by
  by_cases em : m = j
  · subst em; exact ⟨by omega, by omega⟩
  · exact hb m hm (by omega)⟩⟩ (by first | omega | (dsimp only; omega))
      · refine ex rfl (sq (rg (r (mv y5) (r (seq rfl rfl) (re ?_)))))
        refine cp rfl (fun h5 => ?_) (fun h5 => ?_)
        · have hL := hbad i hi' (fun g => g.1 (by rw [h5]; rfl))
          have b6 : B w504 g2 71 ([.int .i64 0, .int .i64 0, .string ⟨#[]⟩, .string ⟨#[]⟩, .int .i64 0, .slice none 0 0]) := Hold.blk H4 0 rfl
          refine sq (rg (r (bd (r := [.int .i64 0, .int .i64 0, .string ⟨#[]⟩, .string ⟨#[]⟩, .int .i64 0, .slice none 0 0]) ti71 pl71 pn rfl) (ef0 (xst (vs := [.int .i64 0, .int .i64 0, .string ⟨#[]⟩, .string ⟨#[]⟩, .int .i64 0, .slice none 0 0]) ti71 y2 rfl rfl b6 rfl (Nat.le_of_ble_eq_true rfl) (one_all rfl)) ?_)))
          rintro w7 ⟨-, b7, c7⟩
          have H5 : Hold w [] w7 [rB g2 71 ([.int .i64 0, .int .i64 0, .string ⟨#[]⟩, .string ⟨#[]⟩, .int .i64 0, .slice none 0 0]), rR kStr 9 (.slice (some ⟨gv, 0, none⟩) fs.length fs.length) fs] := Hold.setB H4 0 rfl b7 c7 rfl
          clear H4
          clear b7 c7
          refine re (rt ?_)
          have H6 : Hold w [] w7 [rB g2 71 ([.int .i64 0, .int .i64 0, .string ⟨#[]⟩, .string ⟨#[]⟩, .int .i64 0, .slice none 0 0]), rR kStr 9 (.slice (some ⟨gv, 0, none⟩) fs.length fs.length) fs, rR i64 2 (.slice none 0 0) ([])] := Hold.nilrow i64 2 H5
          clear H5
          have b8 : B w7 g2 71 ([.int .i64 0, .int .i64 0, .string ⟨#[]⟩, .string ⟨#[]⟩, .int .i64 0, .slice none 0 0]) := Hold.blk H6 0 rfl
          have H7 : Hold w [] w7 [rR i64 2 (.slice none 0 0) ([])] := (show Hold w [] w7 ([rR i64 2 (.slice none 0 0) ([])] ++ [rB g2 71 ([.int .i64 0, .int .i64 0, .string ⟨#[]⟩, .string ⟨#[]⟩, .int .i64 0, .slice none 0 0]), rR kStr 9 (.slice (some ⟨gv, 0, none⟩) fs.length fs.length) fs]) from Hold.re H6 [2, 0, 1] (by kernel_rfl) (by rfl)).drop
          clear H6
          exact finc  (cs := [.int .i64 0, .int .i64 0, .string ⟨#[]⟩, .string ⟨#[]⟩, .int .i64 0, .slice none 0 0]) Tryd.results34 Tryd.underlying71 rfl ti71 y2 b8 rfl  ⟨_, by rw [hL], by rw [hL]; exact H7⟩
        · have hgi : goodF fs[i] := ⟨fun e => h5 (ba_nil_ e), fun b hb' => by
            obtain ⟨m, hm, rfl⟩ := List.getElem_of_mem hb'
            exact hb m hm (by rw [nums8_len] at hm; omega)⟩
          refine sk (be (rg (r (ad (a := (i : Int)) (b := 1) ((i : Int) + 1) y20 rfl (by omega)) (r (mv rfl) (re ?_)))))
          exact ag (i + 1) ⟨y3, y18, y19, rfl, y2, H4, ⟨by omega, fun m hm hlt => by
  by_cases em : m = i
  · subst em; exact hgi
  · exact hg m hm (by omega)⟩⟩ (by first | omega | (dsimp only; omega))
    · refine ex rfl ?_
      have hall : ∀ f, f ∈ cutF xs → goodF f := fun f hf => by
        rw [← hfs] at hf
        obtain ⟨m, hm, rfl⟩ := List.getElem_of_mem hf
        exact hg m hm (by omega)
      have hV : lineV xs = lineF fs := by unfold lineV; rw [if_neg (by omega), fieldsF_yes hall, ← hfs, if_neg (by omega)]
      obtain ⟨f0, hf0⟩ : ∃ f0, f0 = gF fs 0 := ⟨_, rfl⟩
      have hV0 : lineV xs = lineF (f0 :: fs.drop 1) := hV.trans (by rw [hf0]; exact congrArg lineF (cons_eq hne))
      have lgs : (fs.drop 1).length ≤ 1000000 := by rw [List.length_drop]; omega
      have lgl : (fs.drop 1).length = fs.length - 1 := List.length_drop ..
      by_cases hk : f0 = kWrite
      · by_cases h3 : fs.length = 3
        · refine sq ?_
          refine rde mixed ?_
          intro w4 c4
          have H4 : Hold w [] w4 [rB g2 71 ([.int .i64 0, .int .i64 0, .string ⟨#[]⟩, .string ⟨#[]⟩, .int .i64 0, .slice none 0 0]), rR kStr 9 (.slice (some ⟨gv, 0, none⟩) fs.length fs.length) fs] := Hold.t H3 c4
          clear H3
          clear c4
          have H5d0 : Hold w4 [] w4 [] := Hold.start w4
          refine ⟨fun w' => Ch [] w4 w', Ch.refl _ _, ?_⟩
          obtain ⟨_, R6⟩ : ∃ F, Kd.R kStr w4 F (.slice (some ⟨gv, 0, none⟩) fs.length fs.length) fs := Hold.row H4 1 rfl
          refine edt 1 rfl (by kernel_rfl) (fun w' hS => mv y3) ?_
          obtain ⟨c48_7, ad48_7, k48_7, e48_7, p48_7⟩ := Kd.R.place R6 0 ((by omega))
          refine edt 2 rfl (by kernel_rfl) (fun w' hS => ix (j := 0) Tryd.underlying54 ti9 e48_7 rfl ((by omega))) (edt 3 rfl (by kernel_rfl) (fun w' hS => Rn.cast (v' := .string (⟨#[119, 114, 105, 116, 101]⟩ : ByteArray)) (ld Tryd.underlying9 rfl rfl (Ch.cell hS p48_7.cell)) (congrArg Value.string ((gd _).trans (hf0.symm.trans hk)))) (ed1 0 (by kernel_rfl) <| euc rfl go79 an (parsers) ?_))
          rintro r wp ⟨mp, pg2, pg3, pg4, pg5, pg6, pg7, rfl, Hp⟩
          have H5d : Hold w4 [] wp [rMS mp (parsersL pg2 pg3 pg4 pg5 pg6 pg7), rB pg2 2 ([.int .i64 2]), rB pg3 2 ([.int .i64 4]), rB pg4 2 ([.int .i64 5]), rB pg5 2 ([.int .i64 6]), rB pg6 2 ([.int .i64 7]), rB pg7 2 ([.int .i64 8])] := Hold.news H5d0 Hp
          clear H5d0
          clear Hp
          refine ⟨.inr (Hold.ch H5d), ?_⟩
          refine ed1 4 (by kernel_rfl) <| eur rfl (Rn.cast (v' := .tuple #[.func (.func 106) #[] #[], .bool true]) (lkps Tryd.underlying121 Tryd.underlying9 ti119 rfl rfl (Hold.mps (g := mp) H5d 0 rfl)) (by simp [lookS, parsersL])) (.inr (Hold.ch H5d)) ?_
          refine edt 5 rfl (by kernel_rfl) (fun w' hS => mv rfl) (edt 6 rfl (by kernel_rfl) (fun w' hS => xt rfl rfl) (edt 7 rfl (by kernel_rfl) (fun w' hS => xt rfl rfl) (edt 8 rfl (by kernel_rfl) (fun w' hS => sa rfl) ?_)))
          have H6 : Hold w [] wp [rB g2 71 ([.int .i64 0, .int .i64 0, .string ⟨#[]⟩, .string ⟨#[]⟩, .int .i64 0, .slice none 0 0]), rR kStr 9 (.slice (some ⟨gv, 0, none⟩) fs.length fs.length) fs, rMS mp (parsersL pg2 pg3 pg4 pg5 pg6 pg7), rB pg2 2 ([.int .i64 2]), rB pg3 2 ([.int .i64 4]), rB pg4 2 ([.int .i64 5]), rB pg5 2 ([.int .i64 6]), rB pg6 2 ([.int .i64 7]), rB pg7 2 ([.int .i64 8])] := Hold.news H4 H5d
          clear H5d H4
          refine ed1 9 (by kernel_rfl) <| eur rfl (sa rfl) (.inl (by kernel_rfl)) ?_
          refine edd (by kernel_rfl) ?_
          refine sq (sq ?_)
          refine gen (fun ρ => ρ 2 = .pointer (some ⟨g2, 0, none⟩) ∧ ρ 3 = .slice (some ⟨gv, 0, none⟩) fs.length fs.length ∧ ρ 7 = .func (.func 106) #[] #[] ∧ ρ 8 = .bool true ∧ True) ⟨y2, y3, rfl, rfl, trivial⟩ ?_
          rintro ρ ⟨z2, z3, z7, z8, -⟩
          obtain ⟨_, R9⟩ : ∃ F, Kd.R kStr wp F (.slice (some ⟨gv, 0, none⟩) fs.length fs.length) fs := Hold.row H6 1 rfl
          refine rg (r (mv z8) (r (nt rfl) (re (cf rfl (sk (sq (rg (r (mv z7) (r (mv z3) ?_)))))))))
          have hL0 : lineV xs = lineF (kWrite :: fs.drop 1) := hk ▸ hV0
          have H7 : Hold w [] wp [rR kStr 9 (.slice (some ⟨gv, 0, none⟩) fs.length fs.length) fs, rB g2 71 ([.int .i64 0, .int .i64 0, .string ⟨#[]⟩, .string ⟨#[]⟩, .int .i64 0, .slice none 0 0]), rMS mp (parsersL pg2 pg3 pg4 pg5 pg6 pg7), rB pg2 2 ([.int .i64 2]), rB pg3 2 ([.int .i64 4]), rB pg4 2 ([.int .i64 5]), rB pg5 2 ([.int .i64 6]), rB pg6 2 ([.int .i64 7]), rB pg7 2 ([.int .i64 8])] := Hold.re H6 [1, 0, 2, 3, 4, 5, 6, 7, 8] (by kernel_rfl) (by rfl)
          clear H6
          obtain ⟨F10, hF10, n10, s10, K10⟩ := Hold.front (Γ := [rR kStr 9 (.slice (some ⟨gv, 0, none⟩) fs.length fs.length) fs]) (Δ := [rB g2 71 ([.int .i64 0, .int .i64 0, .string ⟨#[]⟩, .string ⟨#[]⟩, .int .i64 0, .slice none 0 0]), rMS mp (parsersL pg2 pg3 pg4 pg5 pg6 pg7), rB pg2 2 ([.int .i64 2]), rB pg3 2 ([.int .i64 4]), rB pg4 2 ([.int .i64 5]), rB pg5 2 ([.int .i64 6]), rB pg6 2 ([.int .i64 7]), rB pg7 2 ([.int .i64 8])]) H7
          refine r (slrl (1) Tryd.underlying54 ti9 R9 rfl rfl (by omega)) (clv rfl go106 (ac rfl an) (parseWrite_fs h3 hF10 n10) ?_)
          rintro r wq ⟨l, okb, u, rfl, hl, Hq⟩
          have H8 : Hold w [] wq [rR i64 2 u l.ns, rB g2 71 ([.int .i64 0, .int .i64 0, .string ⟨#[]⟩, .string ⟨#[]⟩, .int .i64 0, .slice none 0 0]), rMS mp (parsersL pg2 pg3 pg4 pg5 pg6 pg7), rB pg2 2 ([.int .i64 2]), rB pg3 2 ([.int .i64 4]), rB pg4 2 ([.int .i64 5]), rB pg5 2 ([.int .i64 6]), rB pg6 2 ([.int .i64 7]), rB pg7 2 ([.int .i64 8])] := Hold.call K10 Hq
          clear H7
          clear K10 hF10 n10 s10
          clear Hq
          refine r (mv rfl) (r (xt rfl rfl) (r (xt rfl rfl) (ef (xal ti71) ?_)))
          rintro _ w11 ⟨g9, e11, rfl, -, b11, c11⟩
          have H9 : Hold w [] w11 [rR i64 2 u l.ns, rB g2 71 ([.int .i64 0, .int .i64 0, .string ⟨#[]⟩, .string ⟨#[]⟩, .int .i64 0, .slice none 0 0]), rMS mp (parsersL pg2 pg3 pg4 pg5 pg6 pg7), rB pg2 2 ([.int .i64 2]), rB pg3 2 ([.int .i64 4]), rB pg4 2 ([.int .i64 5]), rB pg5 2 ([.int .i64 6]), rB pg6 2 ([.int .i64 7]), rB pg7 2 ([.int .i64 8]), rB g9 71 ([.int .i64 0, .int .i64 0, .string ⟨#[]⟩, .string ⟨#[]⟩, .int .i64 0, .slice none 0 0])] := Hold.newB H8 e11 b11 c11
          clear H8
          clear e11 b11 c11
          have b12 : B w11 g9 71 ([.int .i64 0, .int .i64 0, .string ⟨#[]⟩, .string ⟨#[]⟩, .int .i64 0, .slice none 0 0]) := Hold.blk H9 9 rfl
          obtain ⟨_, R14⟩ : ∃ F, Kd.R i64 w11 F u l.ns := Hold.row H9 0 rfl
          refine ef0 (xst (vs := [.int .i64 l.kind, .int .i64 l.ck, .string l.nm, .string l.dt, .int .i64 l.sz, u]) ti71 rfl rfl rfl b12 rfl (Nat.le_of_ble_eq_true rfl) (oc rfl (oc rfl (oc rfl (oc rfl (oc rfl (oc (R14).oneCell on))))))) ?_
          rintro w13 ⟨-, b13, c13⟩
          have H10 : Hold w [] w13 [rR i64 2 u l.ns, rB g2 71 ([.int .i64 0, .int .i64 0, .string ⟨#[]⟩, .string ⟨#[]⟩, .int .i64 0, .slice none 0 0]), rMS mp (parsersL pg2 pg3 pg4 pg5 pg6 pg7), rB pg2 2 ([.int .i64 2]), rB pg3 2 ([.int .i64 4]), rB pg4 2 ([.int .i64 5]), rB pg5 2 ([.int .i64 6]), rB pg6 2 ([.int .i64 7]), rB pg7 2 ([.int .i64 8]), rB g9 71 ([.int .i64 l.kind, .int .i64 l.ck, .string l.nm, .string l.dt, .int .i64 l.sz, u])] := Hold.setB H9 9 rfl b13 c13 rfl
          clear H9
          clear b13 c13
          refine r (sa rfl) (re (sq (sq ?_)))
          refine gen (fun ρ => ρ 2 = .pointer (some ⟨g2, 0, none⟩) ∧ ρ 9 = .pointer (some ⟨g9, 0, none⟩) ∧ ρ 10 = .bool okb ∧ True) ⟨z2, rfl, rfl, trivial⟩ ?_
          rintro ρ ⟨z2, z9, z10, -⟩
          refine rg (r (mv z10) (r (nt rfl) (re ?_)))
          refine cd rfl (fun hok => ?_) (fun hok => ?_)
          · have hL : lineV xs = badL := by rw [hL0, ← hl, if_neg (by simpa using hok)]
            have b15 : B w13 g2 71 ([.int .i64 0, .int .i64 0, .string ⟨#[]⟩, .string ⟨#[]⟩, .int .i64 0, .slice none 0 0]) := Hold.blk H10 1 rfl
            refine sq (rg (r (bd (r := [.int .i64 0, .int .i64 0, .string ⟨#[]⟩, .string ⟨#[]⟩, .int .i64 0, .slice none 0 0]) ti71 pl71 pn rfl) (ef0 (xst (vs := [.int .i64 0, .int .i64 0, .string ⟨#[]⟩, .string ⟨#[]⟩, .int .i64 0, .slice none 0 0]) ti71 z2 rfl rfl b15 rfl (Nat.le_of_ble_eq_true rfl) (one_all rfl)) ?_)))
            rintro w16 ⟨-, b16, c16⟩
            have H11 : Hold w [] w16 [rR i64 2 u l.ns, rB g2 71 ([.int .i64 0, .int .i64 0, .string ⟨#[]⟩, .string ⟨#[]⟩, .int .i64 0, .slice none 0 0]), rMS mp (parsersL pg2 pg3 pg4 pg5 pg6 pg7), rB pg2 2 ([.int .i64 2]), rB pg3 2 ([.int .i64 4]), rB pg4 2 ([.int .i64 5]), rB pg5 2 ([.int .i64 6]), rB pg6 2 ([.int .i64 7]), rB pg7 2 ([.int .i64 8]), rB g9 71 ([.int .i64 l.kind, .int .i64 l.ck, .string l.nm, .string l.dt, .int .i64 l.sz, u])] := Hold.setB H10 1 rfl b16 c16 rfl
            clear H10
            clear b16 c16
            refine re (rt ?_)
            have H12 : Hold w [] w16 [rR i64 2 u l.ns, rB g2 71 ([.int .i64 0, .int .i64 0, .string ⟨#[]⟩, .string ⟨#[]⟩, .int .i64 0, .slice none 0 0]), rMS mp (parsersL pg2 pg3 pg4 pg5 pg6 pg7), rB pg2 2 ([.int .i64 2]), rB pg3 2 ([.int .i64 4]), rB pg4 2 ([.int .i64 5]), rB pg5 2 ([.int .i64 6]), rB pg6 2 ([.int .i64 7]), rB pg7 2 ([.int .i64 8]), rB g9 71 ([.int .i64 l.kind, .int .i64 l.ck, .string l.nm, .string l.dt, .int .i64 l.sz, u]), rR i64 2 (.slice none 0 0) ([])] := Hold.nilrow i64 2 H11
            clear H11
            have b17 : B w16 g2 71 ([.int .i64 0, .int .i64 0, .string ⟨#[]⟩, .string ⟨#[]⟩, .int .i64 0, .slice none 0 0]) := Hold.blk H12 1 rfl
            have H13 : Hold w [] w16 [rR i64 2 (.slice none 0 0) ([])] := (show Hold w [] w16 ([rR i64 2 (.slice none 0 0) ([])] ++ [rR i64 2 u l.ns, rB g2 71 ([.int .i64 0, .int .i64 0, .string ⟨#[]⟩, .string ⟨#[]⟩, .int .i64 0, .slice none 0 0]), rMS mp (parsersL pg2 pg3 pg4 pg5 pg6 pg7), rB pg2 2 ([.int .i64 2]), rB pg3 2 ([.int .i64 4]), rB pg4 2 ([.int .i64 5]), rB pg5 2 ([.int .i64 6]), rB pg6 2 ([.int .i64 7]), rB pg7 2 ([.int .i64 8]), rB g9 71 ([.int .i64 l.kind, .int .i64 l.ck, .string l.nm, .string l.dt, .int .i64 l.sz, u])]) from Hold.re H12 [10, 0, 1, 2, 3, 4, 5, 6, 7, 8, 9] (by kernel_rfl) (by rfl)).drop
            clear H12
            exact finc  (cs := [.int .i64 0, .int .i64 0, .string ⟨#[]⟩, .string ⟨#[]⟩, .int .i64 0, .slice none 0 0]) Tryd.results34 Tryd.underlying71 rfl ti71 z2 b17 rfl  ⟨_, by rw [hL], by rw [hL]; exact H13⟩
          · have hL : lineV xs = l := by rw [hL0, ← hl, if_pos (by simpa using hok)]
            have b15 : B w13 g9 71 ([.int .i64 l.kind, .int .i64 l.ck, .string l.nm, .string l.dt, .int .i64 l.sz, u]) := Hold.blk H10 9 rfl
            have b16 : B w13 g2 71 ([.int .i64 0, .int .i64 0, .string ⟨#[]⟩, .string ⟨#[]⟩, .int .i64 0, .slice none 0 0]) := Hold.blk H10 1 rfl
            obtain ⟨_, R18⟩ : ∃ F, Kd.R i64 w13 F u l.ns := Hold.row H10 0 rfl
            refine sk (sq (rg (r (lab [.int .i64 l.kind, .int .i64 l.ck, .string l.nm, .string l.dt, .int .i64 l.sz, u] Tryd.underlying71 rfl ti71 z9 b15 rfl rfl) (ef0 (xst (vs := [.int .i64 l.kind, .int .i64 l.ck, .string l.nm, .string l.dt, .int .i64 l.sz, u]) ti71 z2 rfl rfl b16 rfl (Nat.le_of_ble_eq_true rfl) (oc rfl (oc rfl (oc rfl (oc rfl (oc rfl (oc (R18).oneCell on))))))) ?_))))
            rintro w17 ⟨-, b17, c17⟩
            have H11 : Hold w [] w17 [rR i64 2 u l.ns, rB g2 71 ([.int .i64 l.kind, .int .i64 l.ck, .string l.nm, .string l.dt, .int .i64 l.sz, u]), rMS mp (parsersL pg2 pg3 pg4 pg5 pg6 pg7), rB pg2 2 ([.int .i64 2]), rB pg3 2 ([.int .i64 4]), rB pg4 2 ([.int .i64 5]), rB pg5 2 ([.int .i64 6]), rB pg6 2 ([.int .i64 7]), rB pg7 2 ([.int .i64 8]), rB g9 71 ([.int .i64 l.kind, .int .i64 l.ck, .string l.nm, .string l.dt, .int .i64 l.sz, u])] := Hold.setB H10 1 rfl b17 c17 rfl
            clear H10
            clear b17 c17
            refine re (rt ?_)
            have b19 : B w17 g2 71 ([.int .i64 l.kind, .int .i64 l.ck, .string l.nm, .string l.dt, .int .i64 l.sz, u]) := Hold.blk H11 1 rfl
            have H12 : Hold w [] w17 [rR i64 2 u l.ns] := (show Hold w [] w17 ([rR i64 2 u l.ns] ++ [rB g2 71 ([.int .i64 l.kind, .int .i64 l.ck, .string l.nm, .string l.dt, .int .i64 l.sz, u]), rMS mp (parsersL pg2 pg3 pg4 pg5 pg6 pg7), rB pg2 2 ([.int .i64 2]), rB pg3 2 ([.int .i64 4]), rB pg4 2 ([.int .i64 5]), rB pg5 2 ([.int .i64 6]), rB pg6 2 ([.int .i64 7]), rB pg7 2 ([.int .i64 8]), rB g9 71 ([.int .i64 l.kind, .int .i64 l.ck, .string l.nm, .string l.dt, .int .i64 l.sz, u])]) from Hold.re H11 [0, 1, 2, 3, 4, 5, 6, 7, 8, 9] (by kernel_rfl) (by rfl)).drop
            clear H11
            exact finc  (cs := [.int .i64 l.kind, .int .i64 l.ck, .string l.nm, .string l.dt, .int .i64 l.sz, u]) Tryd.results34 Tryd.underlying71 rfl ti71 z2 b19 rfl  ⟨u, by rw [hL], by rw [hL]; exact H12⟩
        · refine sq ?_
          refine rde mixed ?_
          intro w4 c4
          have H4 : Hold w [] w4 [rB g2 71 ([.int .i64 0, .int .i64 0, .string ⟨#[]⟩, .string ⟨#[]⟩, .int .i64 0, .slice none 0 0]), rR kStr 9 (.slice (some ⟨gv, 0, none⟩) fs.length fs.length) fs] := Hold.t H3 c4
          clear H3
          clear c4
          have H5d0 : Hold w4 [] w4 [] := Hold.start w4
          refine ⟨fun w' => Ch [] w4 w', Ch.refl _ _, ?_⟩
          obtain ⟨_, R6⟩ : ∃ F, Kd.R kStr w4 F (.slice (some ⟨gv, 0, none⟩) fs.length fs.length) fs := Hold.row H4 1 rfl
          refine edt 1 rfl (by kernel_rfl) (fun w' hS => mv y3) ?_
          obtain ⟨c48_7, ad48_7, k48_7, e48_7, p48_7⟩ := Kd.R.place R6 0 ((by omega))
          refine edt 2 rfl (by kernel_rfl) (fun w' hS => ix (j := 0) Tryd.underlying54 ti9 e48_7 rfl ((by omega))) (edt 3 rfl (by kernel_rfl) (fun w' hS => Rn.cast (v' := .string (⟨#[119, 114, 105, 116, 101]⟩ : ByteArray)) (ld Tryd.underlying9 rfl rfl (Ch.cell hS p48_7.cell)) (congrArg Value.string ((gd _).trans (hf0.symm.trans hk)))) (ed1 0 (by kernel_rfl) <| euc rfl go79 an (parsers) ?_))
          rintro r wp ⟨mp, pg2, pg3, pg4, pg5, pg6, pg7, rfl, Hp⟩
          have H5d : Hold w4 [] wp [rMS mp (parsersL pg2 pg3 pg4 pg5 pg6 pg7), rB pg2 2 ([.int .i64 2]), rB pg3 2 ([.int .i64 4]), rB pg4 2 ([.int .i64 5]), rB pg5 2 ([.int .i64 6]), rB pg6 2 ([.int .i64 7]), rB pg7 2 ([.int .i64 8])] := Hold.news H5d0 Hp
          clear H5d0
          clear Hp
          refine ⟨.inr (Hold.ch H5d), ?_⟩
          refine ed1 4 (by kernel_rfl) <| eur rfl (Rn.cast (v' := .tuple #[.func (.func 106) #[] #[], .bool true]) (lkps Tryd.underlying121 Tryd.underlying9 ti119 rfl rfl (Hold.mps (g := mp) H5d 0 rfl)) (by simp [lookS, parsersL])) (.inr (Hold.ch H5d)) ?_
          refine edt 5 rfl (by kernel_rfl) (fun w' hS => mv rfl) (edt 6 rfl (by kernel_rfl) (fun w' hS => xt rfl rfl) (edt 7 rfl (by kernel_rfl) (fun w' hS => xt rfl rfl) (edt 8 rfl (by kernel_rfl) (fun w' hS => sa rfl) ?_)))
          have H6 : Hold w [] wp [rB g2 71 ([.int .i64 0, .int .i64 0, .string ⟨#[]⟩, .string ⟨#[]⟩, .int .i64 0, .slice none 0 0]), rR kStr 9 (.slice (some ⟨gv, 0, none⟩) fs.length fs.length) fs, rMS mp (parsersL pg2 pg3 pg4 pg5 pg6 pg7), rB pg2 2 ([.int .i64 2]), rB pg3 2 ([.int .i64 4]), rB pg4 2 ([.int .i64 5]), rB pg5 2 ([.int .i64 6]), rB pg6 2 ([.int .i64 7]), rB pg7 2 ([.int .i64 8])] := Hold.news H4 H5d
          clear H5d H4
          refine ed1 9 (by kernel_rfl) <| eur rfl (sa rfl) (.inl (by kernel_rfl)) ?_
          refine edd (by kernel_rfl) ?_
          refine sq (sq ?_)
          refine gen (fun ρ => ρ 2 = .pointer (some ⟨g2, 0, none⟩) ∧ ρ 3 = .slice (some ⟨gv, 0, none⟩) fs.length fs.length ∧ ρ 7 = .func (.func 106) #[] #[] ∧ ρ 8 = .bool true ∧ True) ⟨y2, y3, rfl, rfl, trivial⟩ ?_
          rintro ρ ⟨z2, z3, z7, z8, -⟩
          obtain ⟨_, R9⟩ : ∃ F, Kd.R kStr wp F (.slice (some ⟨gv, 0, none⟩) fs.length fs.length) fs := Hold.row H6 1 rfl
          refine rg (r (mv z8) (r (nt rfl) (re (cf rfl (sk (sq (rg (r (mv z7) (r (mv z3) ?_)))))))))
          have hL0 : lineV xs = lineF (kWrite :: fs.drop 1) := hk ▸ hV0
          obtain ⟨F11, us11, R11⟩ := Kd.R.sl R9 (1) (fs.length) (by first | omega | (simp; omega)) (by first | omega | (simp; omega))
          have e11 : (fs.take fs.length).drop 1 = fs.drop 1 := by first | (rw [List.take_length, List.drop_drop]; done) | (rw [List.drop_take]; done) | (simp; done) | (rw [List.drop_take]; congr 1; omega) | (rw [List.take_length, List.drop_drop]; congr 1; omega)
          rw [e11] at R11
          refine r (slrl (1) Tryd.underlying54 ti9 R9 rfl rfl (by omega)) (clv rfl go106 (ac rfl an) (parseWrite_no R11 lgs (by omega)) ?_)
          rintro r wq ⟨l, okb, u, rfl, hl, Hq⟩
          have H7 : Hold w [] wq [rB g2 71 ([.int .i64 0, .int .i64 0, .string ⟨#[]⟩, .string ⟨#[]⟩, .int .i64 0, .slice none 0 0]), rR kStr 9 (.slice (some ⟨gv, 0, none⟩) fs.length fs.length) fs, rMS mp (parsersL pg2 pg3 pg4 pg5 pg6 pg7), rB pg2 2 ([.int .i64 2]), rB pg3 2 ([.int .i64 4]), rB pg4 2 ([.int .i64 5]), rB pg5 2 ([.int .i64 6]), rB pg6 2 ([.int .i64 7]), rB pg7 2 ([.int .i64 8]), rR i64 2 u l.ns] := Hold.news H6 Hq
          clear H6
          clear Hq
          refine r (mv rfl) (r (xt rfl rfl) (r (xt rfl rfl) (ef (xal ti71) ?_)))
          rintro _ w12 ⟨g9, e12, rfl, -, b12, c12⟩
          have H8 : Hold w [] w12 [rB g2 71 ([.int .i64 0, .int .i64 0, .string ⟨#[]⟩, .string ⟨#[]⟩, .int .i64 0, .slice none 0 0]), rR kStr 9 (.slice (some ⟨gv, 0, none⟩) fs.length fs.length) fs, rMS mp (parsersL pg2 pg3 pg4 pg5 pg6 pg7), rB pg2 2 ([.int .i64 2]), rB pg3 2 ([.int .i64 4]), rB pg4 2 ([.int .i64 5]), rB pg5 2 ([.int .i64 6]), rB pg6 2 ([.int .i64 7]), rB pg7 2 ([.int .i64 8]), rR i64 2 u l.ns, rB g9 71 ([.int .i64 0, .int .i64 0, .string ⟨#[]⟩, .string ⟨#[]⟩, .int .i64 0, .slice none 0 0])] := Hold.newB H7 e12 b12 c12
          clear H7
          clear e12 b12 c12
          have b13 : B w12 g9 71 ([.int .i64 0, .int .i64 0, .string ⟨#[]⟩, .string ⟨#[]⟩, .int .i64 0, .slice none 0 0]) := Hold.blk H8 10 rfl
          obtain ⟨_, R15⟩ : ∃ F, Kd.R i64 w12 F u l.ns := Hold.row H8 9 rfl
          refine ef0 (xst (vs := [.int .i64 l.kind, .int .i64 l.ck, .string l.nm, .string l.dt, .int .i64 l.sz, u]) ti71 rfl rfl rfl b13 rfl (Nat.le_of_ble_eq_true rfl) (oc rfl (oc rfl (oc rfl (oc rfl (oc rfl (oc (R15).oneCell on))))))) ?_
          rintro w14 ⟨-, b14, c14⟩
          have H9 : Hold w [] w14 [rB g2 71 ([.int .i64 0, .int .i64 0, .string ⟨#[]⟩, .string ⟨#[]⟩, .int .i64 0, .slice none 0 0]), rR kStr 9 (.slice (some ⟨gv, 0, none⟩) fs.length fs.length) fs, rMS mp (parsersL pg2 pg3 pg4 pg5 pg6 pg7), rB pg2 2 ([.int .i64 2]), rB pg3 2 ([.int .i64 4]), rB pg4 2 ([.int .i64 5]), rB pg5 2 ([.int .i64 6]), rB pg6 2 ([.int .i64 7]), rB pg7 2 ([.int .i64 8]), rR i64 2 u l.ns, rB g9 71 ([.int .i64 l.kind, .int .i64 l.ck, .string l.nm, .string l.dt, .int .i64 l.sz, u])] := Hold.setB H8 10 rfl b14 c14 rfl
          clear H8
          clear b14 c14
          refine r (sa rfl) (re (sq (sq ?_)))
          refine gen (fun ρ => ρ 2 = .pointer (some ⟨g2, 0, none⟩) ∧ ρ 9 = .pointer (some ⟨g9, 0, none⟩) ∧ ρ 10 = .bool okb ∧ True) ⟨z2, rfl, rfl, trivial⟩ ?_
          rintro ρ ⟨z2, z9, z10, -⟩
          refine rg (r (mv z10) (r (nt rfl) (re ?_)))
          refine cd rfl (fun hok => ?_) (fun hok => ?_)
          · have hL : lineV xs = badL := by rw [hL0, ← hl, if_neg (by simpa using hok)]
            have b16 : B w14 g2 71 ([.int .i64 0, .int .i64 0, .string ⟨#[]⟩, .string ⟨#[]⟩, .int .i64 0, .slice none 0 0]) := Hold.blk H9 0 rfl
            refine sq (rg (r (bd (r := [.int .i64 0, .int .i64 0, .string ⟨#[]⟩, .string ⟨#[]⟩, .int .i64 0, .slice none 0 0]) ti71 pl71 pn rfl) (ef0 (xst (vs := [.int .i64 0, .int .i64 0, .string ⟨#[]⟩, .string ⟨#[]⟩, .int .i64 0, .slice none 0 0]) ti71 z2 rfl rfl b16 rfl (Nat.le_of_ble_eq_true rfl) (one_all rfl)) ?_)))
            rintro w17 ⟨-, b17, c17⟩
            have H10 : Hold w [] w17 [rB g2 71 ([.int .i64 0, .int .i64 0, .string ⟨#[]⟩, .string ⟨#[]⟩, .int .i64 0, .slice none 0 0]), rR kStr 9 (.slice (some ⟨gv, 0, none⟩) fs.length fs.length) fs, rMS mp (parsersL pg2 pg3 pg4 pg5 pg6 pg7), rB pg2 2 ([.int .i64 2]), rB pg3 2 ([.int .i64 4]), rB pg4 2 ([.int .i64 5]), rB pg5 2 ([.int .i64 6]), rB pg6 2 ([.int .i64 7]), rB pg7 2 ([.int .i64 8]), rR i64 2 u l.ns, rB g9 71 ([.int .i64 l.kind, .int .i64 l.ck, .string l.nm, .string l.dt, .int .i64 l.sz, u])] := Hold.setB H9 0 rfl b17 c17 rfl
            clear H9
            clear b17 c17
            refine re (rt ?_)
            have H11 : Hold w [] w17 [rB g2 71 ([.int .i64 0, .int .i64 0, .string ⟨#[]⟩, .string ⟨#[]⟩, .int .i64 0, .slice none 0 0]), rR kStr 9 (.slice (some ⟨gv, 0, none⟩) fs.length fs.length) fs, rMS mp (parsersL pg2 pg3 pg4 pg5 pg6 pg7), rB pg2 2 ([.int .i64 2]), rB pg3 2 ([.int .i64 4]), rB pg4 2 ([.int .i64 5]), rB pg5 2 ([.int .i64 6]), rB pg6 2 ([.int .i64 7]), rB pg7 2 ([.int .i64 8]), rR i64 2 u l.ns, rB g9 71 ([.int .i64 l.kind, .int .i64 l.ck, .string l.nm, .string l.dt, .int .i64 l.sz, u]), rR i64 2 (.slice none 0 0) ([])] := Hold.nilrow i64 2 H10
            clear H10
            have b18 : B w17 g2 71 ([.int .i64 0, .int .i64 0, .string ⟨#[]⟩, .string ⟨#[]⟩, .int .i64 0, .slice none 0 0]) := Hold.blk H11 0 rfl
            have H12 : Hold w [] w17 [rR i64 2 (.slice none 0 0) ([])] := (show Hold w [] w17 ([rR i64 2 (.slice none 0 0) ([])] ++ [rB g2 71 ([.int .i64 0, .int .i64 0, .string ⟨#[]⟩, .string ⟨#[]⟩, .int .i64 0, .slice none 0 0]), rR kStr 9 (.slice (some ⟨gv, 0, none⟩) fs.length fs.length) fs, rMS mp (parsersL pg2 pg3 pg4 pg5 pg6 pg7), rB pg2 2 ([.int .i64 2]), rB pg3 2 ([.int .i64 4]), rB pg4 2 ([.int .i64 5]), rB pg5 2 ([.int .i64 6]), rB pg6 2 ([.int .i64 7]), rB pg7 2 ([.int .i64 8]), rR i64 2 u l.ns, rB g9 71 ([.int .i64 l.kind, .int .i64 l.ck, .string l.nm, .string l.dt, .int .i64 l.sz, u])]) from Hold.re H11 [11, 0, 1, 2, 3, 4, 5, 6, 7, 8, 9, 10] (by kernel_rfl) (by rfl)).drop
            clear H11
            exact finc  (cs := [.int .i64 0, .int .i64 0, .string ⟨#[]⟩, .string ⟨#[]⟩, .int .i64 0, .slice none 0 0]) Tryd.results34 Tryd.underlying71 rfl ti71 z2 b18 rfl  ⟨_, by rw [hL], by rw [hL]; exact H12⟩
          · have hL : lineV xs = l := by rw [hL0, ← hl, if_pos (by simpa using hok)]
            have b16 : B w14 g9 71 ([.int .i64 l.kind, .int .i64 l.ck, .string l.nm, .string l.dt, .int .i64 l.sz, u]) := Hold.blk H9 10 rfl
            have b17 : B w14 g2 71 ([.int .i64 0, .int .i64 0, .string ⟨#[]⟩, .string ⟨#[]⟩, .int .i64 0, .slice none 0 0]) := Hold.blk H9 0 rfl
            obtain ⟨_, R19⟩ : ∃ F, Kd.R i64 w14 F u l.ns := Hold.row H9 9 rfl
            refine sk (sq (rg (r (lab [.int .i64 l.kind, .int .i64 l.ck, .string l.nm, .string l.dt, .int .i64 l.sz, u] Tryd.underlying71 rfl ti71 z9 b16 rfl rfl) (ef0 (xst (vs := [.int .i64 l.kind, .int .i64 l.ck, .string l.nm, .string l.dt, .int .i64 l.sz, u]) ti71 z2 rfl rfl b17 rfl (Nat.le_of_ble_eq_true rfl) (oc rfl (oc rfl (oc rfl (oc rfl (oc rfl (oc (R19).oneCell on))))))) ?_))))
            rintro w18 ⟨-, b18, c18⟩
            have H10 : Hold w [] w18 [rB g2 71 ([.int .i64 l.kind, .int .i64 l.ck, .string l.nm, .string l.dt, .int .i64 l.sz, u]), rR kStr 9 (.slice (some ⟨gv, 0, none⟩) fs.length fs.length) fs, rMS mp (parsersL pg2 pg3 pg4 pg5 pg6 pg7), rB pg2 2 ([.int .i64 2]), rB pg3 2 ([.int .i64 4]), rB pg4 2 ([.int .i64 5]), rB pg5 2 ([.int .i64 6]), rB pg6 2 ([.int .i64 7]), rB pg7 2 ([.int .i64 8]), rR i64 2 u l.ns, rB g9 71 ([.int .i64 l.kind, .int .i64 l.ck, .string l.nm, .string l.dt, .int .i64 l.sz, u])] := Hold.setB H9 0 rfl b18 c18 rfl
            clear H9
            clear b18 c18
            refine re (rt ?_)
            have b20 : B w18 g2 71 ([.int .i64 l.kind, .int .i64 l.ck, .string l.nm, .string l.dt, .int .i64 l.sz, u]) := Hold.blk H10 0 rfl
            have H11 : Hold w [] w18 [rR i64 2 u l.ns] := (show Hold w [] w18 ([rR i64 2 u l.ns] ++ [rB g2 71 ([.int .i64 l.kind, .int .i64 l.ck, .string l.nm, .string l.dt, .int .i64 l.sz, u]), rR kStr 9 (.slice (some ⟨gv, 0, none⟩) fs.length fs.length) fs, rMS mp (parsersL pg2 pg3 pg4 pg5 pg6 pg7), rB pg2 2 ([.int .i64 2]), rB pg3 2 ([.int .i64 4]), rB pg4 2 ([.int .i64 5]), rB pg5 2 ([.int .i64 6]), rB pg6 2 ([.int .i64 7]), rB pg7 2 ([.int .i64 8]), rB g9 71 ([.int .i64 l.kind, .int .i64 l.ck, .string l.nm, .string l.dt, .int .i64 l.sz, u])]) from Hold.re H10 [9, 0, 1, 2, 3, 4, 5, 6, 7, 8, 10] (by kernel_rfl) (by rfl)).drop
            clear H10
            exact finc  (cs := [.int .i64 l.kind, .int .i64 l.ck, .string l.nm, .string l.dt, .int .i64 l.sz, u]) Tryd.results34 Tryd.underlying71 rfl ti71 z2 b20 rfl  ⟨u, by rw [hL], by rw [hL]; exact H11⟩
      · have hn_write := hk
        by_cases hk : f0 = kRead
        · refine sq ?_
          refine rde mixed ?_
          intro w4 c4
          have H4 : Hold w [] w4 [rB g2 71 ([.int .i64 0, .int .i64 0, .string ⟨#[]⟩, .string ⟨#[]⟩, .int .i64 0, .slice none 0 0]), rR kStr 9 (.slice (some ⟨gv, 0, none⟩) fs.length fs.length) fs] := Hold.t H3 c4
          clear H3
          clear c4
          have H5d0 : Hold w4 [] w4 [] := Hold.start w4
          refine ⟨fun w' => Ch [] w4 w', Ch.refl _ _, ?_⟩
          obtain ⟨_, R6⟩ : ∃ F, Kd.R kStr w4 F (.slice (some ⟨gv, 0, none⟩) fs.length fs.length) fs := Hold.row H4 1 rfl
          refine edt 1 rfl (by kernel_rfl) (fun w' hS => mv y3) ?_
          obtain ⟨c48_7, ad48_7, k48_7, e48_7, p48_7⟩ := Kd.R.place R6 0 ((by omega))
          refine edt 2 rfl (by kernel_rfl) (fun w' hS => ix (j := 0) Tryd.underlying54 ti9 e48_7 rfl ((by omega))) (edt 3 rfl (by kernel_rfl) (fun w' hS => Rn.cast (v' := .string (⟨#[114, 101, 97, 100]⟩ : ByteArray)) (ld Tryd.underlying9 rfl rfl (Ch.cell hS p48_7.cell)) (congrArg Value.string ((gd _).trans (hf0.symm.trans hk)))) (ed1 0 (by kernel_rfl) <| euc rfl go79 an (parsers) ?_))
          rintro r wp ⟨mp, pg2, pg3, pg4, pg5, pg6, pg7, rfl, Hp⟩
          have H5d : Hold w4 [] wp [rMS mp (parsersL pg2 pg3 pg4 pg5 pg6 pg7), rB pg2 2 ([.int .i64 2]), rB pg3 2 ([.int .i64 4]), rB pg4 2 ([.int .i64 5]), rB pg5 2 ([.int .i64 6]), rB pg6 2 ([.int .i64 7]), rB pg7 2 ([.int .i64 8])] := Hold.news H5d0 Hp
          clear H5d0
          clear Hp
          refine ⟨.inr (Hold.ch H5d), ?_⟩
          refine ed1 4 (by kernel_rfl) <| eur rfl (Rn.cast (v' := .tuple #[.func (.func 127) #[] [.pointer (some ⟨pg2, 0, none⟩)].toArray, .bool true]) (lkps Tryd.underlying121 Tryd.underlying9 ti119 rfl rfl (Hold.mps (g := mp) H5d 0 rfl)) (by simp [lookS, parsersL])) (.inr (Hold.ch H5d)) ?_
          refine edt 5 rfl (by kernel_rfl) (fun w' hS => mv rfl) (edt 6 rfl (by kernel_rfl) (fun w' hS => xt rfl rfl) (edt 7 rfl (by kernel_rfl) (fun w' hS => xt rfl rfl) (edt 8 rfl (by kernel_rfl) (fun w' hS => sa rfl) ?_)))
          have H6 : Hold w [] wp [rB g2 71 ([.int .i64 0, .int .i64 0, .string ⟨#[]⟩, .string ⟨#[]⟩, .int .i64 0, .slice none 0 0]), rR kStr 9 (.slice (some ⟨gv, 0, none⟩) fs.length fs.length) fs, rMS mp (parsersL pg2 pg3 pg4 pg5 pg6 pg7), rB pg2 2 ([.int .i64 2]), rB pg3 2 ([.int .i64 4]), rB pg4 2 ([.int .i64 5]), rB pg5 2 ([.int .i64 6]), rB pg6 2 ([.int .i64 7]), rB pg7 2 ([.int .i64 8])] := Hold.news H4 H5d
          clear H5d H4
          refine ed1 9 (by kernel_rfl) <| eur rfl (sa rfl) (.inl (by kernel_rfl)) ?_
          refine edd (by kernel_rfl) ?_
          refine sq (sq ?_)
          refine gen (fun ρ => ρ 2 = .pointer (some ⟨g2, 0, none⟩) ∧ ρ 3 = .slice (some ⟨gv, 0, none⟩) fs.length fs.length ∧ ρ 7 = .func (.func 127) #[] [.pointer (some ⟨pg2, 0, none⟩)].toArray ∧ ρ 8 = .bool true ∧ True) ⟨y2, y3, rfl, rfl, trivial⟩ ?_
          rintro ρ ⟨z2, z3, z7, z8, -⟩
          obtain ⟨_, R9⟩ : ∃ F, Kd.R kStr wp F (.slice (some ⟨gv, 0, none⟩) fs.length fs.length) fs := Hold.row H6 1 rfl
          refine rg (r (mv z8) (r (nt rfl) (re (cf rfl (sk (sq (rg (r (mv z7) (r (mv z3) ?_)))))))))
          have hL0 : lineV xs = lineF (kRead :: fs.drop 1) := hk ▸ hV0
          have b11 : B wp pg2 2 ([.int .i64 2]) := Hold.blk H6 3 rfl
          obtain ⟨F12, us12, R12⟩ := Kd.R.sl R9 (1) (fs.length) (by first | omega | (simp; omega)) (by first | omega | (simp; omega))
          have e12 : (fs.take fs.length).drop 1 = fs.drop 1 := by first | (rw [List.take_length, List.drop_drop]; done) | (rw [List.drop_take]; done) | (simp; done) | (rw [List.drop_take]; congr 1; omega) | (rw [List.take_length, List.drop_drop]; congr 1; omega)
          rw [e12] at R12
          refine r (slrl (1) Tryd.underlying54 ti9 R9 rfl rfl (by omega)) (clv rfl go127 (ac rfl an) (named_read b11 R12 lgs) ?_)
          rintro r wq ⟨l, okb, u, rfl, hl, Hq⟩
          have H7 : Hold w [] wq [rB g2 71 ([.int .i64 0, .int .i64 0, .string ⟨#[]⟩, .string ⟨#[]⟩, .int .i64 0, .slice none 0 0]), rR kStr 9 (.slice (some ⟨gv, 0, none⟩) fs.length fs.length) fs, rMS mp (parsersL pg2 pg3 pg4 pg5 pg6 pg7), rB pg2 2 ([.int .i64 2]), rB pg3 2 ([.int .i64 4]), rB pg4 2 ([.int .i64 5]), rB pg5 2 ([.int .i64 6]), rB pg6 2 ([.int .i64 7]), rB pg7 2 ([.int .i64 8]), rR i64 2 u l.ns] := Hold.news H6 Hq
          clear H6
          clear Hq
          refine r (mv rfl) (r (xt rfl rfl) (r (xt rfl rfl) (ef (xal ti71) ?_)))
          rintro _ w13 ⟨g9, e13, rfl, -, b13, c13⟩
          have H8 : Hold w [] w13 [rB g2 71 ([.int .i64 0, .int .i64 0, .string ⟨#[]⟩, .string ⟨#[]⟩, .int .i64 0, .slice none 0 0]), rR kStr 9 (.slice (some ⟨gv, 0, none⟩) fs.length fs.length) fs, rMS mp (parsersL pg2 pg3 pg4 pg5 pg6 pg7), rB pg2 2 ([.int .i64 2]), rB pg3 2 ([.int .i64 4]), rB pg4 2 ([.int .i64 5]), rB pg5 2 ([.int .i64 6]), rB pg6 2 ([.int .i64 7]), rB pg7 2 ([.int .i64 8]), rR i64 2 u l.ns, rB g9 71 ([.int .i64 0, .int .i64 0, .string ⟨#[]⟩, .string ⟨#[]⟩, .int .i64 0, .slice none 0 0])] := Hold.newB H7 e13 b13 c13
          clear H7
          clear e13 b13 c13
          have b14 : B w13 g9 71 ([.int .i64 0, .int .i64 0, .string ⟨#[]⟩, .string ⟨#[]⟩, .int .i64 0, .slice none 0 0]) := Hold.blk H8 10 rfl
          obtain ⟨_, R16⟩ : ∃ F, Kd.R i64 w13 F u l.ns := Hold.row H8 9 rfl
          refine ef0 (xst (vs := [.int .i64 l.kind, .int .i64 l.ck, .string l.nm, .string l.dt, .int .i64 l.sz, u]) ti71 rfl rfl rfl b14 rfl (Nat.le_of_ble_eq_true rfl) (oc rfl (oc rfl (oc rfl (oc rfl (oc rfl (oc (R16).oneCell on))))))) ?_
          rintro w15 ⟨-, b15, c15⟩
          have H9 : Hold w [] w15 [rB g2 71 ([.int .i64 0, .int .i64 0, .string ⟨#[]⟩, .string ⟨#[]⟩, .int .i64 0, .slice none 0 0]), rR kStr 9 (.slice (some ⟨gv, 0, none⟩) fs.length fs.length) fs, rMS mp (parsersL pg2 pg3 pg4 pg5 pg6 pg7), rB pg2 2 ([.int .i64 2]), rB pg3 2 ([.int .i64 4]), rB pg4 2 ([.int .i64 5]), rB pg5 2 ([.int .i64 6]), rB pg6 2 ([.int .i64 7]), rB pg7 2 ([.int .i64 8]), rR i64 2 u l.ns, rB g9 71 ([.int .i64 l.kind, .int .i64 l.ck, .string l.nm, .string l.dt, .int .i64 l.sz, u])] := Hold.setB H8 10 rfl b15 c15 rfl
          clear H8
          clear b15 c15
          refine r (sa rfl) (re (sq (sq ?_)))
          refine gen (fun ρ => ρ 2 = .pointer (some ⟨g2, 0, none⟩) ∧ ρ 9 = .pointer (some ⟨g9, 0, none⟩) ∧ ρ 10 = .bool okb ∧ True) ⟨z2, rfl, rfl, trivial⟩ ?_
          rintro ρ ⟨z2, z9, z10, -⟩
          refine rg (r (mv z10) (r (nt rfl) (re ?_)))
          refine cd rfl (fun hok => ?_) (fun hok => ?_)
          · have hL : lineV xs = badL := by rw [hL0, ← hl, if_neg (by simpa using hok)]
            have b17 : B w15 g2 71 ([.int .i64 0, .int .i64 0, .string ⟨#[]⟩, .string ⟨#[]⟩, .int .i64 0, .slice none 0 0]) := Hold.blk H9 0 rfl
            refine sq (rg (r (bd (r := [.int .i64 0, .int .i64 0, .string ⟨#[]⟩, .string ⟨#[]⟩, .int .i64 0, .slice none 0 0]) ti71 pl71 pn rfl) (ef0 (xst (vs := [.int .i64 0, .int .i64 0, .string ⟨#[]⟩, .string ⟨#[]⟩, .int .i64 0, .slice none 0 0]) ti71 z2 rfl rfl b17 rfl (Nat.le_of_ble_eq_true rfl) (one_all rfl)) ?_)))
            rintro w18 ⟨-, b18, c18⟩
            have H10 : Hold w [] w18 [rB g2 71 ([.int .i64 0, .int .i64 0, .string ⟨#[]⟩, .string ⟨#[]⟩, .int .i64 0, .slice none 0 0]), rR kStr 9 (.slice (some ⟨gv, 0, none⟩) fs.length fs.length) fs, rMS mp (parsersL pg2 pg3 pg4 pg5 pg6 pg7), rB pg2 2 ([.int .i64 2]), rB pg3 2 ([.int .i64 4]), rB pg4 2 ([.int .i64 5]), rB pg5 2 ([.int .i64 6]), rB pg6 2 ([.int .i64 7]), rB pg7 2 ([.int .i64 8]), rR i64 2 u l.ns, rB g9 71 ([.int .i64 l.kind, .int .i64 l.ck, .string l.nm, .string l.dt, .int .i64 l.sz, u])] := Hold.setB H9 0 rfl b18 c18 rfl
            clear H9
            clear b18 c18
            refine re (rt ?_)
            have H11 : Hold w [] w18 [rB g2 71 ([.int .i64 0, .int .i64 0, .string ⟨#[]⟩, .string ⟨#[]⟩, .int .i64 0, .slice none 0 0]), rR kStr 9 (.slice (some ⟨gv, 0, none⟩) fs.length fs.length) fs, rMS mp (parsersL pg2 pg3 pg4 pg5 pg6 pg7), rB pg2 2 ([.int .i64 2]), rB pg3 2 ([.int .i64 4]), rB pg4 2 ([.int .i64 5]), rB pg5 2 ([.int .i64 6]), rB pg6 2 ([.int .i64 7]), rB pg7 2 ([.int .i64 8]), rR i64 2 u l.ns, rB g9 71 ([.int .i64 l.kind, .int .i64 l.ck, .string l.nm, .string l.dt, .int .i64 l.sz, u]), rR i64 2 (.slice none 0 0) ([])] := Hold.nilrow i64 2 H10
            clear H10
            have b19 : B w18 g2 71 ([.int .i64 0, .int .i64 0, .string ⟨#[]⟩, .string ⟨#[]⟩, .int .i64 0, .slice none 0 0]) := Hold.blk H11 0 rfl
            have H12 : Hold w [] w18 [rR i64 2 (.slice none 0 0) ([])] := (show Hold w [] w18 ([rR i64 2 (.slice none 0 0) ([])] ++ [rB g2 71 ([.int .i64 0, .int .i64 0, .string ⟨#[]⟩, .string ⟨#[]⟩, .int .i64 0, .slice none 0 0]), rR kStr 9 (.slice (some ⟨gv, 0, none⟩) fs.length fs.length) fs, rMS mp (parsersL pg2 pg3 pg4 pg5 pg6 pg7), rB pg2 2 ([.int .i64 2]), rB pg3 2 ([.int .i64 4]), rB pg4 2 ([.int .i64 5]), rB pg5 2 ([.int .i64 6]), rB pg6 2 ([.int .i64 7]), rB pg7 2 ([.int .i64 8]), rR i64 2 u l.ns, rB g9 71 ([.int .i64 l.kind, .int .i64 l.ck, .string l.nm, .string l.dt, .int .i64 l.sz, u])]) from Hold.re H11 [11, 0, 1, 2, 3, 4, 5, 6, 7, 8, 9, 10] (by kernel_rfl) (by rfl)).drop
            clear H11
            exact finc  (cs := [.int .i64 0, .int .i64 0, .string ⟨#[]⟩, .string ⟨#[]⟩, .int .i64 0, .slice none 0 0]) Tryd.results34 Tryd.underlying71 rfl ti71 z2 b19 rfl  ⟨_, by rw [hL], by rw [hL]; exact H12⟩
          · have hL : lineV xs = l := by rw [hL0, ← hl, if_pos (by simpa using hok)]
            have b17 : B w15 g9 71 ([.int .i64 l.kind, .int .i64 l.ck, .string l.nm, .string l.dt, .int .i64 l.sz, u]) := Hold.blk H9 10 rfl
            have b18 : B w15 g2 71 ([.int .i64 0, .int .i64 0, .string ⟨#[]⟩, .string ⟨#[]⟩, .int .i64 0, .slice none 0 0]) := Hold.blk H9 0 rfl
            obtain ⟨_, R20⟩ : ∃ F, Kd.R i64 w15 F u l.ns := Hold.row H9 9 rfl
            refine sk (sq (rg (r (lab [.int .i64 l.kind, .int .i64 l.ck, .string l.nm, .string l.dt, .int .i64 l.sz, u] Tryd.underlying71 rfl ti71 z9 b17 rfl rfl) (ef0 (xst (vs := [.int .i64 l.kind, .int .i64 l.ck, .string l.nm, .string l.dt, .int .i64 l.sz, u]) ti71 z2 rfl rfl b18 rfl (Nat.le_of_ble_eq_true rfl) (oc rfl (oc rfl (oc rfl (oc rfl (oc rfl (oc (R20).oneCell on))))))) ?_))))
            rintro w19 ⟨-, b19, c19⟩
            have H10 : Hold w [] w19 [rB g2 71 ([.int .i64 l.kind, .int .i64 l.ck, .string l.nm, .string l.dt, .int .i64 l.sz, u]), rR kStr 9 (.slice (some ⟨gv, 0, none⟩) fs.length fs.length) fs, rMS mp (parsersL pg2 pg3 pg4 pg5 pg6 pg7), rB pg2 2 ([.int .i64 2]), rB pg3 2 ([.int .i64 4]), rB pg4 2 ([.int .i64 5]), rB pg5 2 ([.int .i64 6]), rB pg6 2 ([.int .i64 7]), rB pg7 2 ([.int .i64 8]), rR i64 2 u l.ns, rB g9 71 ([.int .i64 l.kind, .int .i64 l.ck, .string l.nm, .string l.dt, .int .i64 l.sz, u])] := Hold.setB H9 0 rfl b19 c19 rfl
            clear H9
            clear b19 c19
            refine re (rt ?_)
            have b21 : B w19 g2 71 ([.int .i64 l.kind, .int .i64 l.ck, .string l.nm, .string l.dt, .int .i64 l.sz, u]) := Hold.blk H10 0 rfl
            have H11 : Hold w [] w19 [rR i64 2 u l.ns] := (show Hold w [] w19 ([rR i64 2 u l.ns] ++ [rB g2 71 ([.int .i64 l.kind, .int .i64 l.ck, .string l.nm, .string l.dt, .int .i64 l.sz, u]), rR kStr 9 (.slice (some ⟨gv, 0, none⟩) fs.length fs.length) fs, rMS mp (parsersL pg2 pg3 pg4 pg5 pg6 pg7), rB pg2 2 ([.int .i64 2]), rB pg3 2 ([.int .i64 4]), rB pg4 2 ([.int .i64 5]), rB pg5 2 ([.int .i64 6]), rB pg6 2 ([.int .i64 7]), rB pg7 2 ([.int .i64 8]), rB g9 71 ([.int .i64 l.kind, .int .i64 l.ck, .string l.nm, .string l.dt, .int .i64 l.sz, u])]) from Hold.re H10 [9, 0, 1, 2, 3, 4, 5, 6, 7, 8, 10] (by kernel_rfl) (by rfl)).drop
            clear H10
            exact finc  (cs := [.int .i64 l.kind, .int .i64 l.ck, .string l.nm, .string l.dt, .int .i64 l.sz, u]) Tryd.results34 Tryd.underlying71 rfl ti71 z2 b21 rfl  ⟨u, by rw [hL], by rw [hL]; exact H11⟩
        · have hn_read := hk
          by_cases hk : f0 = kDel
          · refine sq ?_
            refine rde mixed ?_
            intro w4 c4
            have H4 : Hold w [] w4 [rB g2 71 ([.int .i64 0, .int .i64 0, .string ⟨#[]⟩, .string ⟨#[]⟩, .int .i64 0, .slice none 0 0]), rR kStr 9 (.slice (some ⟨gv, 0, none⟩) fs.length fs.length) fs] := Hold.t H3 c4
            clear H3
            clear c4
            have H5d0 : Hold w4 [] w4 [] := Hold.start w4
            refine ⟨fun w' => Ch [] w4 w', Ch.refl _ _, ?_⟩
            obtain ⟨_, R6⟩ : ∃ F, Kd.R kStr w4 F (.slice (some ⟨gv, 0, none⟩) fs.length fs.length) fs := Hold.row H4 1 rfl
            refine edt 1 rfl (by kernel_rfl) (fun w' hS => mv y3) ?_
            obtain ⟨c48_7, ad48_7, k48_7, e48_7, p48_7⟩ := Kd.R.place R6 0 ((by omega))
            refine edt 2 rfl (by kernel_rfl) (fun w' hS => ix (j := 0) Tryd.underlying54 ti9 e48_7 rfl ((by omega))) (edt 3 rfl (by kernel_rfl) (fun w' hS => Rn.cast (v' := .string (⟨#[100, 101, 108]⟩ : ByteArray)) (ld Tryd.underlying9 rfl rfl (Ch.cell hS p48_7.cell)) (congrArg Value.string ((gd _).trans (hf0.symm.trans hk)))) (ed1 0 (by kernel_rfl) <| euc rfl go79 an (parsers) ?_))
            rintro r wp ⟨mp, pg2, pg3, pg4, pg5, pg6, pg7, rfl, Hp⟩
            have H5d : Hold w4 [] wp [rMS mp (parsersL pg2 pg3 pg4 pg5 pg6 pg7), rB pg2 2 ([.int .i64 2]), rB pg3 2 ([.int .i64 4]), rB pg4 2 ([.int .i64 5]), rB pg5 2 ([.int .i64 6]), rB pg6 2 ([.int .i64 7]), rB pg7 2 ([.int .i64 8])] := Hold.news H5d0 Hp
            clear H5d0
            clear Hp
            refine ⟨.inr (Hold.ch H5d), ?_⟩
            refine ed1 4 (by kernel_rfl) <| eur rfl (Rn.cast (v' := .tuple #[.func (.func 127) #[] [.pointer (some ⟨pg3, 0, none⟩)].toArray, .bool true]) (lkps Tryd.underlying121 Tryd.underlying9 ti119 rfl rfl (Hold.mps (g := mp) H5d 0 rfl)) (by simp [lookS, parsersL])) (.inr (Hold.ch H5d)) ?_
            refine edt 5 rfl (by kernel_rfl) (fun w' hS => mv rfl) (edt 6 rfl (by kernel_rfl) (fun w' hS => xt rfl rfl) (edt 7 rfl (by kernel_rfl) (fun w' hS => xt rfl rfl) (edt 8 rfl (by kernel_rfl) (fun w' hS => sa rfl) ?_)))
            have H6 : Hold w [] wp [rB g2 71 ([.int .i64 0, .int .i64 0, .string ⟨#[]⟩, .string ⟨#[]⟩, .int .i64 0, .slice none 0 0]), rR kStr 9 (.slice (some ⟨gv, 0, none⟩) fs.length fs.length) fs, rMS mp (parsersL pg2 pg3 pg4 pg5 pg6 pg7), rB pg2 2 ([.int .i64 2]), rB pg3 2 ([.int .i64 4]), rB pg4 2 ([.int .i64 5]), rB pg5 2 ([.int .i64 6]), rB pg6 2 ([.int .i64 7]), rB pg7 2 ([.int .i64 8])] := Hold.news H4 H5d
            clear H5d H4
            refine ed1 9 (by kernel_rfl) <| eur rfl (sa rfl) (.inl (by kernel_rfl)) ?_
            refine edd (by kernel_rfl) ?_
            refine sq (sq ?_)
            refine gen (fun ρ => ρ 2 = .pointer (some ⟨g2, 0, none⟩) ∧ ρ 3 = .slice (some ⟨gv, 0, none⟩) fs.length fs.length ∧ ρ 7 = .func (.func 127) #[] [.pointer (some ⟨pg3, 0, none⟩)].toArray ∧ ρ 8 = .bool true ∧ True) ⟨y2, y3, rfl, rfl, trivial⟩ ?_
            rintro ρ ⟨z2, z3, z7, z8, -⟩
            obtain ⟨_, R9⟩ : ∃ F, Kd.R kStr wp F (.slice (some ⟨gv, 0, none⟩) fs.length fs.length) fs := Hold.row H6 1 rfl
            refine rg (r (mv z8) (r (nt rfl) (re (cf rfl (sk (sq (rg (r (mv z7) (r (mv z3) ?_)))))))))
            have hL0 : lineV xs = lineF (kDel :: fs.drop 1) := hk ▸ hV0
            have b11 : B wp pg3 2 ([.int .i64 4]) := Hold.blk H6 4 rfl
            obtain ⟨F12, us12, R12⟩ := Kd.R.sl R9 (1) (fs.length) (by first | omega | (simp; omega)) (by first | omega | (simp; omega))
            have e12 : (fs.take fs.length).drop 1 = fs.drop 1 := by first | (rw [List.take_length, List.drop_drop]; done) | (rw [List.drop_take]; done) | (simp; done) | (rw [List.drop_take]; congr 1; omega) | (rw [List.take_length, List.drop_drop]; congr 1; omega)
            rw [e12] at R12
            refine r (slrl (1) Tryd.underlying54 ti9 R9 rfl rfl (by omega)) (clv rfl go127 (ac rfl an) (named_del b11 R12 lgs) ?_)
            rintro r wq ⟨l, okb, u, rfl, hl, Hq⟩
            have H7 : Hold w [] wq [rB g2 71 ([.int .i64 0, .int .i64 0, .string ⟨#[]⟩, .string ⟨#[]⟩, .int .i64 0, .slice none 0 0]), rR kStr 9 (.slice (some ⟨gv, 0, none⟩) fs.length fs.length) fs, rMS mp (parsersL pg2 pg3 pg4 pg5 pg6 pg7), rB pg2 2 ([.int .i64 2]), rB pg3 2 ([.int .i64 4]), rB pg4 2 ([.int .i64 5]), rB pg5 2 ([.int .i64 6]), rB pg6 2 ([.int .i64 7]), rB pg7 2 ([.int .i64 8]), rR i64 2 u l.ns] := Hold.news H6 Hq
            clear H6
            clear Hq
            refine r (mv rfl) (r (xt rfl rfl) (r (xt rfl rfl) (ef (xal ti71) ?_)))
            rintro _ w13 ⟨g9, e13, rfl, -, b13, c13⟩
            have H8 : Hold w [] w13 [rB g2 71 ([.int .i64 0, .int .i64 0, .string ⟨#[]⟩, .string ⟨#[]⟩, .int .i64 0, .slice none 0 0]), rR kStr 9 (.slice (some ⟨gv, 0, none⟩) fs.length fs.length) fs, rMS mp (parsersL pg2 pg3 pg4 pg5 pg6 pg7), rB pg2 2 ([.int .i64 2]), rB pg3 2 ([.int .i64 4]), rB pg4 2 ([.int .i64 5]), rB pg5 2 ([.int .i64 6]), rB pg6 2 ([.int .i64 7]), rB pg7 2 ([.int .i64 8]), rR i64 2 u l.ns, rB g9 71 ([.int .i64 0, .int .i64 0, .string ⟨#[]⟩, .string ⟨#[]⟩, .int .i64 0, .slice none 0 0])] := Hold.newB H7 e13 b13 c13
            clear H7
            clear e13 b13 c13
            have b14 : B w13 g9 71 ([.int .i64 0, .int .i64 0, .string ⟨#[]⟩, .string ⟨#[]⟩, .int .i64 0, .slice none 0 0]) := Hold.blk H8 10 rfl
            obtain ⟨_, R16⟩ : ∃ F, Kd.R i64 w13 F u l.ns := Hold.row H8 9 rfl
            refine ef0 (xst (vs := [.int .i64 l.kind, .int .i64 l.ck, .string l.nm, .string l.dt, .int .i64 l.sz, u]) ti71 rfl rfl rfl b14 rfl (Nat.le_of_ble_eq_true rfl) (oc rfl (oc rfl (oc rfl (oc rfl (oc rfl (oc (R16).oneCell on))))))) ?_
            rintro w15 ⟨-, b15, c15⟩
            have H9 : Hold w [] w15 [rB g2 71 ([.int .i64 0, .int .i64 0, .string ⟨#[]⟩, .string ⟨#[]⟩, .int .i64 0, .slice none 0 0]), rR kStr 9 (.slice (some ⟨gv, 0, none⟩) fs.length fs.length) fs, rMS mp (parsersL pg2 pg3 pg4 pg5 pg6 pg7), rB pg2 2 ([.int .i64 2]), rB pg3 2 ([.int .i64 4]), rB pg4 2 ([.int .i64 5]), rB pg5 2 ([.int .i64 6]), rB pg6 2 ([.int .i64 7]), rB pg7 2 ([.int .i64 8]), rR i64 2 u l.ns, rB g9 71 ([.int .i64 l.kind, .int .i64 l.ck, .string l.nm, .string l.dt, .int .i64 l.sz, u])] := Hold.setB H8 10 rfl b15 c15 rfl
            clear H8
            clear b15 c15
            refine r (sa rfl) (re (sq (sq ?_)))
            refine gen (fun ρ => ρ 2 = .pointer (some ⟨g2, 0, none⟩) ∧ ρ 9 = .pointer (some ⟨g9, 0, none⟩) ∧ ρ 10 = .bool okb ∧ True) ⟨z2, rfl, rfl, trivial⟩ ?_
            rintro ρ ⟨z2, z9, z10, -⟩
            refine rg (r (mv z10) (r (nt rfl) (re ?_)))
            refine cd rfl (fun hok => ?_) (fun hok => ?_)
            · have hL : lineV xs = badL := by rw [hL0, ← hl, if_neg (by simpa using hok)]
              have b17 : B w15 g2 71 ([.int .i64 0, .int .i64 0, .string ⟨#[]⟩, .string ⟨#[]⟩, .int .i64 0, .slice none 0 0]) := Hold.blk H9 0 rfl
              refine sq (rg (r (bd (r := [.int .i64 0, .int .i64 0, .string ⟨#[]⟩, .string ⟨#[]⟩, .int .i64 0, .slice none 0 0]) ti71 pl71 pn rfl) (ef0 (xst (vs := [.int .i64 0, .int .i64 0, .string ⟨#[]⟩, .string ⟨#[]⟩, .int .i64 0, .slice none 0 0]) ti71 z2 rfl rfl b17 rfl (Nat.le_of_ble_eq_true rfl) (one_all rfl)) ?_)))
              rintro w18 ⟨-, b18, c18⟩
              have H10 : Hold w [] w18 [rB g2 71 ([.int .i64 0, .int .i64 0, .string ⟨#[]⟩, .string ⟨#[]⟩, .int .i64 0, .slice none 0 0]), rR kStr 9 (.slice (some ⟨gv, 0, none⟩) fs.length fs.length) fs, rMS mp (parsersL pg2 pg3 pg4 pg5 pg6 pg7), rB pg2 2 ([.int .i64 2]), rB pg3 2 ([.int .i64 4]), rB pg4 2 ([.int .i64 5]), rB pg5 2 ([.int .i64 6]), rB pg6 2 ([.int .i64 7]), rB pg7 2 ([.int .i64 8]), rR i64 2 u l.ns, rB g9 71 ([.int .i64 l.kind, .int .i64 l.ck, .string l.nm, .string l.dt, .int .i64 l.sz, u])] := Hold.setB H9 0 rfl b18 c18 rfl
              clear H9
              clear b18 c18
              refine re (rt ?_)
              have H11 : Hold w [] w18 [rB g2 71 ([.int .i64 0, .int .i64 0, .string ⟨#[]⟩, .string ⟨#[]⟩, .int .i64 0, .slice none 0 0]), rR kStr 9 (.slice (some ⟨gv, 0, none⟩) fs.length fs.length) fs, rMS mp (parsersL pg2 pg3 pg4 pg5 pg6 pg7), rB pg2 2 ([.int .i64 2]), rB pg3 2 ([.int .i64 4]), rB pg4 2 ([.int .i64 5]), rB pg5 2 ([.int .i64 6]), rB pg6 2 ([.int .i64 7]), rB pg7 2 ([.int .i64 8]), rR i64 2 u l.ns, rB g9 71 ([.int .i64 l.kind, .int .i64 l.ck, .string l.nm, .string l.dt, .int .i64 l.sz, u]), rR i64 2 (.slice none 0 0) ([])] := Hold.nilrow i64 2 H10
              clear H10
              have b19 : B w18 g2 71 ([.int .i64 0, .int .i64 0, .string ⟨#[]⟩, .string ⟨#[]⟩, .int .i64 0, .slice none 0 0]) := Hold.blk H11 0 rfl
              have H12 : Hold w [] w18 [rR i64 2 (.slice none 0 0) ([])] := (show Hold w [] w18 ([rR i64 2 (.slice none 0 0) ([])] ++ [rB g2 71 ([.int .i64 0, .int .i64 0, .string ⟨#[]⟩, .string ⟨#[]⟩, .int .i64 0, .slice none 0 0]), rR kStr 9 (.slice (some ⟨gv, 0, none⟩) fs.length fs.length) fs, rMS mp (parsersL pg2 pg3 pg4 pg5 pg6 pg7), rB pg2 2 ([.int .i64 2]), rB pg3 2 ([.int .i64 4]), rB pg4 2 ([.int .i64 5]), rB pg5 2 ([.int .i64 6]), rB pg6 2 ([.int .i64 7]), rB pg7 2 ([.int .i64 8]), rR i64 2 u l.ns, rB g9 71 ([.int .i64 l.kind, .int .i64 l.ck, .string l.nm, .string l.dt, .int .i64 l.sz, u])]) from Hold.re H11 [11, 0, 1, 2, 3, 4, 5, 6, 7, 8, 9, 10] (by kernel_rfl) (by rfl)).drop
              clear H11
              exact finc  (cs := [.int .i64 0, .int .i64 0, .string ⟨#[]⟩, .string ⟨#[]⟩, .int .i64 0, .slice none 0 0]) Tryd.results34 Tryd.underlying71 rfl ti71 z2 b19 rfl  ⟨_, by rw [hL], by rw [hL]; exact H12⟩
            · have hL : lineV xs = l := by rw [hL0, ← hl, if_pos (by simpa using hok)]
              have b17 : B w15 g9 71 ([.int .i64 l.kind, .int .i64 l.ck, .string l.nm, .string l.dt, .int .i64 l.sz, u]) := Hold.blk H9 10 rfl
              have b18 : B w15 g2 71 ([.int .i64 0, .int .i64 0, .string ⟨#[]⟩, .string ⟨#[]⟩, .int .i64 0, .slice none 0 0]) := Hold.blk H9 0 rfl
              obtain ⟨_, R20⟩ : ∃ F, Kd.R i64 w15 F u l.ns := Hold.row H9 9 rfl
              refine sk (sq (rg (r (lab [.int .i64 l.kind, .int .i64 l.ck, .string l.nm, .string l.dt, .int .i64 l.sz, u] Tryd.underlying71 rfl ti71 z9 b17 rfl rfl) (ef0 (xst (vs := [.int .i64 l.kind, .int .i64 l.ck, .string l.nm, .string l.dt, .int .i64 l.sz, u]) ti71 z2 rfl rfl b18 rfl (Nat.le_of_ble_eq_true rfl) (oc rfl (oc rfl (oc rfl (oc rfl (oc rfl (oc (R20).oneCell on))))))) ?_))))
              rintro w19 ⟨-, b19, c19⟩
              have H10 : Hold w [] w19 [rB g2 71 ([.int .i64 l.kind, .int .i64 l.ck, .string l.nm, .string l.dt, .int .i64 l.sz, u]), rR kStr 9 (.slice (some ⟨gv, 0, none⟩) fs.length fs.length) fs, rMS mp (parsersL pg2 pg3 pg4 pg5 pg6 pg7), rB pg2 2 ([.int .i64 2]), rB pg3 2 ([.int .i64 4]), rB pg4 2 ([.int .i64 5]), rB pg5 2 ([.int .i64 6]), rB pg6 2 ([.int .i64 7]), rB pg7 2 ([.int .i64 8]), rR i64 2 u l.ns, rB g9 71 ([.int .i64 l.kind, .int .i64 l.ck, .string l.nm, .string l.dt, .int .i64 l.sz, u])] := Hold.setB H9 0 rfl b19 c19 rfl
              clear H9
              clear b19 c19
              refine re (rt ?_)
              have b21 : B w19 g2 71 ([.int .i64 l.kind, .int .i64 l.ck, .string l.nm, .string l.dt, .int .i64 l.sz, u]) := Hold.blk H10 0 rfl
              have H11 : Hold w [] w19 [rR i64 2 u l.ns] := (show Hold w [] w19 ([rR i64 2 u l.ns] ++ [rB g2 71 ([.int .i64 l.kind, .int .i64 l.ck, .string l.nm, .string l.dt, .int .i64 l.sz, u]), rR kStr 9 (.slice (some ⟨gv, 0, none⟩) fs.length fs.length) fs, rMS mp (parsersL pg2 pg3 pg4 pg5 pg6 pg7), rB pg2 2 ([.int .i64 2]), rB pg3 2 ([.int .i64 4]), rB pg4 2 ([.int .i64 5]), rB pg5 2 ([.int .i64 6]), rB pg6 2 ([.int .i64 7]), rB pg7 2 ([.int .i64 8]), rB g9 71 ([.int .i64 l.kind, .int .i64 l.ck, .string l.nm, .string l.dt, .int .i64 l.sz, u])]) from Hold.re H10 [9, 0, 1, 2, 3, 4, 5, 6, 7, 8, 10] (by kernel_rfl) (by rfl)).drop
              clear H10
              exact finc  (cs := [.int .i64 l.kind, .int .i64 l.ck, .string l.nm, .string l.dt, .int .i64 l.sz, u]) Tryd.results34 Tryd.underlying71 rfl ti71 z2 b21 rfl  ⟨u, by rw [hL], by rw [hL]; exact H11⟩
          · have hn_del := hk
            by_cases hk : f0 = kList
            · refine sq ?_
              refine rde mixed ?_
              intro w4 c4
              have H4 : Hold w [] w4 [rB g2 71 ([.int .i64 0, .int .i64 0, .string ⟨#[]⟩, .string ⟨#[]⟩, .int .i64 0, .slice none 0 0]), rR kStr 9 (.slice (some ⟨gv, 0, none⟩) fs.length fs.length) fs] := Hold.t H3 c4
              clear H3
              clear c4
              have H5d0 : Hold w4 [] w4 [] := Hold.start w4
              refine ⟨fun w' => Ch [] w4 w', Ch.refl _ _, ?_⟩
              obtain ⟨_, R6⟩ : ∃ F, Kd.R kStr w4 F (.slice (some ⟨gv, 0, none⟩) fs.length fs.length) fs := Hold.row H4 1 rfl
              refine edt 1 rfl (by kernel_rfl) (fun w' hS => mv y3) ?_
              obtain ⟨c48_7, ad48_7, k48_7, e48_7, p48_7⟩ := Kd.R.place R6 0 ((by omega))
              refine edt 2 rfl (by kernel_rfl) (fun w' hS => ix (j := 0) Tryd.underlying54 ti9 e48_7 rfl ((by omega))) (edt 3 rfl (by kernel_rfl) (fun w' hS => Rn.cast (v' := .string (⟨#[108, 105, 115, 116]⟩ : ByteArray)) (ld Tryd.underlying9 rfl rfl (Ch.cell hS p48_7.cell)) (congrArg Value.string ((gd _).trans (hf0.symm.trans hk)))) (ed1 0 (by kernel_rfl) <| euc rfl go79 an (parsers) ?_))
              rintro r wp ⟨mp, pg2, pg3, pg4, pg5, pg6, pg7, rfl, Hp⟩
              have H5d : Hold w4 [] wp [rMS mp (parsersL pg2 pg3 pg4 pg5 pg6 pg7), rB pg2 2 ([.int .i64 2]), rB pg3 2 ([.int .i64 4]), rB pg4 2 ([.int .i64 5]), rB pg5 2 ([.int .i64 6]), rB pg6 2 ([.int .i64 7]), rB pg7 2 ([.int .i64 8])] := Hold.news H5d0 Hp
              clear H5d0
              clear Hp
              refine ⟨.inr (Hold.ch H5d), ?_⟩
              refine ed1 4 (by kernel_rfl) <| eur rfl (Rn.cast (v' := .tuple #[.func (.func 128) #[] [.pointer (some ⟨pg4, 0, none⟩)].toArray, .bool true]) (lkps Tryd.underlying121 Tryd.underlying9 ti119 rfl rfl (Hold.mps (g := mp) H5d 0 rfl)) (by simp [lookS, parsersL])) (.inr (Hold.ch H5d)) ?_
              refine edt 5 rfl (by kernel_rfl) (fun w' hS => mv rfl) (edt 6 rfl (by kernel_rfl) (fun w' hS => xt rfl rfl) (edt 7 rfl (by kernel_rfl) (fun w' hS => xt rfl rfl) (edt 8 rfl (by kernel_rfl) (fun w' hS => sa rfl) ?_)))
              have H6 : Hold w [] wp [rB g2 71 ([.int .i64 0, .int .i64 0, .string ⟨#[]⟩, .string ⟨#[]⟩, .int .i64 0, .slice none 0 0]), rR kStr 9 (.slice (some ⟨gv, 0, none⟩) fs.length fs.length) fs, rMS mp (parsersL pg2 pg3 pg4 pg5 pg6 pg7), rB pg2 2 ([.int .i64 2]), rB pg3 2 ([.int .i64 4]), rB pg4 2 ([.int .i64 5]), rB pg5 2 ([.int .i64 6]), rB pg6 2 ([.int .i64 7]), rB pg7 2 ([.int .i64 8])] := Hold.news H4 H5d
              clear H5d H4
              refine ed1 9 (by kernel_rfl) <| eur rfl (sa rfl) (.inl (by kernel_rfl)) ?_
              refine edd (by kernel_rfl) ?_
              refine sq (sq ?_)
              refine gen (fun ρ => ρ 2 = .pointer (some ⟨g2, 0, none⟩) ∧ ρ 3 = .slice (some ⟨gv, 0, none⟩) fs.length fs.length ∧ ρ 7 = .func (.func 128) #[] [.pointer (some ⟨pg4, 0, none⟩)].toArray ∧ ρ 8 = .bool true ∧ True) ⟨y2, y3, rfl, rfl, trivial⟩ ?_
              rintro ρ ⟨z2, z3, z7, z8, -⟩
              obtain ⟨_, R9⟩ : ∃ F, Kd.R kStr wp F (.slice (some ⟨gv, 0, none⟩) fs.length fs.length) fs := Hold.row H6 1 rfl
              refine rg (r (mv z8) (r (nt rfl) (re (cf rfl (sk (sq (rg (r (mv z7) (r (mv z3) ?_)))))))))
              have hL0 : lineV xs = lineF (kList :: fs.drop 1) := hk ▸ hV0
              have b11 : B wp pg4 2 ([.int .i64 5]) := Hold.blk H6 5 rfl
              obtain ⟨F12, us12, R12⟩ := Kd.R.sl R9 (1) (fs.length) (by first | omega | (simp; omega)) (by first | omega | (simp; omega))
              have e12 : (fs.take fs.length).drop 1 = fs.drop 1 := by first | (rw [List.take_length, List.drop_drop]; done) | (rw [List.drop_take]; done) | (simp; done) | (rw [List.drop_take]; congr 1; omega) | (rw [List.take_length, List.drop_drop]; congr 1; omega)
              rw [e12] at R12
              refine r (slrl (1) Tryd.underlying54 ti9 R9 rfl rfl (by omega)) (clv rfl go128 (ac rfl an) (bare_list b11 R12 lgs) ?_)
              rintro r wq ⟨l, okb, u, rfl, hl, Hq⟩
              have H7 : Hold w [] wq [rB g2 71 ([.int .i64 0, .int .i64 0, .string ⟨#[]⟩, .string ⟨#[]⟩, .int .i64 0, .slice none 0 0]), rR kStr 9 (.slice (some ⟨gv, 0, none⟩) fs.length fs.length) fs, rMS mp (parsersL pg2 pg3 pg4 pg5 pg6 pg7), rB pg2 2 ([.int .i64 2]), rB pg3 2 ([.int .i64 4]), rB pg4 2 ([.int .i64 5]), rB pg5 2 ([.int .i64 6]), rB pg6 2 ([.int .i64 7]), rB pg7 2 ([.int .i64 8]), rR i64 2 u l.ns] := Hold.news H6 Hq
              clear H6
              clear Hq
              refine r (mv rfl) (r (xt rfl rfl) (r (xt rfl rfl) (ef (xal ti71) ?_)))
              rintro _ w13 ⟨g9, e13, rfl, -, b13, c13⟩
              have H8 : Hold w [] w13 [rB g2 71 ([.int .i64 0, .int .i64 0, .string ⟨#[]⟩, .string ⟨#[]⟩, .int .i64 0, .slice none 0 0]), rR kStr 9 (.slice (some ⟨gv, 0, none⟩) fs.length fs.length) fs, rMS mp (parsersL pg2 pg3 pg4 pg5 pg6 pg7), rB pg2 2 ([.int .i64 2]), rB pg3 2 ([.int .i64 4]), rB pg4 2 ([.int .i64 5]), rB pg5 2 ([.int .i64 6]), rB pg6 2 ([.int .i64 7]), rB pg7 2 ([.int .i64 8]), rR i64 2 u l.ns, rB g9 71 ([.int .i64 0, .int .i64 0, .string ⟨#[]⟩, .string ⟨#[]⟩, .int .i64 0, .slice none 0 0])] := Hold.newB H7 e13 b13 c13
              clear H7
              clear e13 b13 c13
              have b14 : B w13 g9 71 ([.int .i64 0, .int .i64 0, .string ⟨#[]⟩, .string ⟨#[]⟩, .int .i64 0, .slice none 0 0]) := Hold.blk H8 10 rfl
              obtain ⟨_, R16⟩ : ∃ F, Kd.R i64 w13 F u l.ns := Hold.row H8 9 rfl
              refine ef0 (xst (vs := [.int .i64 l.kind, .int .i64 l.ck, .string l.nm, .string l.dt, .int .i64 l.sz, u]) ti71 rfl rfl rfl b14 rfl (Nat.le_of_ble_eq_true rfl) (oc rfl (oc rfl (oc rfl (oc rfl (oc rfl (oc (R16).oneCell on))))))) ?_
              rintro w15 ⟨-, b15, c15⟩
              have H9 : Hold w [] w15 [rB g2 71 ([.int .i64 0, .int .i64 0, .string ⟨#[]⟩, .string ⟨#[]⟩, .int .i64 0, .slice none 0 0]), rR kStr 9 (.slice (some ⟨gv, 0, none⟩) fs.length fs.length) fs, rMS mp (parsersL pg2 pg3 pg4 pg5 pg6 pg7), rB pg2 2 ([.int .i64 2]), rB pg3 2 ([.int .i64 4]), rB pg4 2 ([.int .i64 5]), rB pg5 2 ([.int .i64 6]), rB pg6 2 ([.int .i64 7]), rB pg7 2 ([.int .i64 8]), rR i64 2 u l.ns, rB g9 71 ([.int .i64 l.kind, .int .i64 l.ck, .string l.nm, .string l.dt, .int .i64 l.sz, u])] := Hold.setB H8 10 rfl b15 c15 rfl
              clear H8
              clear b15 c15
              refine r (sa rfl) (re (sq (sq ?_)))
              refine gen (fun ρ => ρ 2 = .pointer (some ⟨g2, 0, none⟩) ∧ ρ 9 = .pointer (some ⟨g9, 0, none⟩) ∧ ρ 10 = .bool okb ∧ True) ⟨z2, rfl, rfl, trivial⟩ ?_
              rintro ρ ⟨z2, z9, z10, -⟩
              refine rg (r (mv z10) (r (nt rfl) (re ?_)))
              refine cd rfl (fun hok => ?_) (fun hok => ?_)
              · have hL : lineV xs = badL := by rw [hL0, ← hl, if_neg (by simpa using hok)]
                have b17 : B w15 g2 71 ([.int .i64 0, .int .i64 0, .string ⟨#[]⟩, .string ⟨#[]⟩, .int .i64 0, .slice none 0 0]) := Hold.blk H9 0 rfl
                refine sq (rg (r (bd (r := [.int .i64 0, .int .i64 0, .string ⟨#[]⟩, .string ⟨#[]⟩, .int .i64 0, .slice none 0 0]) ti71 pl71 pn rfl) (ef0 (xst (vs := [.int .i64 0, .int .i64 0, .string ⟨#[]⟩, .string ⟨#[]⟩, .int .i64 0, .slice none 0 0]) ti71 z2 rfl rfl b17 rfl (Nat.le_of_ble_eq_true rfl) (one_all rfl)) ?_)))
                rintro w18 ⟨-, b18, c18⟩
                have H10 : Hold w [] w18 [rB g2 71 ([.int .i64 0, .int .i64 0, .string ⟨#[]⟩, .string ⟨#[]⟩, .int .i64 0, .slice none 0 0]), rR kStr 9 (.slice (some ⟨gv, 0, none⟩) fs.length fs.length) fs, rMS mp (parsersL pg2 pg3 pg4 pg5 pg6 pg7), rB pg2 2 ([.int .i64 2]), rB pg3 2 ([.int .i64 4]), rB pg4 2 ([.int .i64 5]), rB pg5 2 ([.int .i64 6]), rB pg6 2 ([.int .i64 7]), rB pg7 2 ([.int .i64 8]), rR i64 2 u l.ns, rB g9 71 ([.int .i64 l.kind, .int .i64 l.ck, .string l.nm, .string l.dt, .int .i64 l.sz, u])] := Hold.setB H9 0 rfl b18 c18 rfl
                clear H9
                clear b18 c18
                refine re (rt ?_)
                have H11 : Hold w [] w18 [rB g2 71 ([.int .i64 0, .int .i64 0, .string ⟨#[]⟩, .string ⟨#[]⟩, .int .i64 0, .slice none 0 0]), rR kStr 9 (.slice (some ⟨gv, 0, none⟩) fs.length fs.length) fs, rMS mp (parsersL pg2 pg3 pg4 pg5 pg6 pg7), rB pg2 2 ([.int .i64 2]), rB pg3 2 ([.int .i64 4]), rB pg4 2 ([.int .i64 5]), rB pg5 2 ([.int .i64 6]), rB pg6 2 ([.int .i64 7]), rB pg7 2 ([.int .i64 8]), rR i64 2 u l.ns, rB g9 71 ([.int .i64 l.kind, .int .i64 l.ck, .string l.nm, .string l.dt, .int .i64 l.sz, u]), rR i64 2 (.slice none 0 0) ([])] := Hold.nilrow i64 2 H10
                clear H10
                have b19 : B w18 g2 71 ([.int .i64 0, .int .i64 0, .string ⟨#[]⟩, .string ⟨#[]⟩, .int .i64 0, .slice none 0 0]) := Hold.blk H11 0 rfl
                have H12 : Hold w [] w18 [rR i64 2 (.slice none 0 0) ([])] := (show Hold w [] w18 ([rR i64 2 (.slice none 0 0) ([])] ++ [rB g2 71 ([.int .i64 0, .int .i64 0, .string ⟨#[]⟩, .string ⟨#[]⟩, .int .i64 0, .slice none 0 0]), rR kStr 9 (.slice (some ⟨gv, 0, none⟩) fs.length fs.length) fs, rMS mp (parsersL pg2 pg3 pg4 pg5 pg6 pg7), rB pg2 2 ([.int .i64 2]), rB pg3 2 ([.int .i64 4]), rB pg4 2 ([.int .i64 5]), rB pg5 2 ([.int .i64 6]), rB pg6 2 ([.int .i64 7]), rB pg7 2 ([.int .i64 8]), rR i64 2 u l.ns, rB g9 71 ([.int .i64 l.kind, .int .i64 l.ck, .string l.nm, .string l.dt, .int .i64 l.sz, u])]) from Hold.re H11 [11, 0, 1, 2, 3, 4, 5, 6, 7, 8, 9, 10] (by kernel_rfl) (by rfl)).drop
                clear H11
                exact finc  (cs := [.int .i64 0, .int .i64 0, .string ⟨#[]⟩, .string ⟨#[]⟩, .int .i64 0, .slice none 0 0]) Tryd.results34 Tryd.underlying71 rfl ti71 z2 b19 rfl  ⟨_, by rw [hL], by rw [hL]; exact H12⟩
              · have hL : lineV xs = l := by rw [hL0, ← hl, if_pos (by simpa using hok)]
                have b17 : B w15 g9 71 ([.int .i64 l.kind, .int .i64 l.ck, .string l.nm, .string l.dt, .int .i64 l.sz, u]) := Hold.blk H9 10 rfl
                have b18 : B w15 g2 71 ([.int .i64 0, .int .i64 0, .string ⟨#[]⟩, .string ⟨#[]⟩, .int .i64 0, .slice none 0 0]) := Hold.blk H9 0 rfl
                obtain ⟨_, R20⟩ : ∃ F, Kd.R i64 w15 F u l.ns := Hold.row H9 9 rfl
                refine sk (sq (rg (r (lab [.int .i64 l.kind, .int .i64 l.ck, .string l.nm, .string l.dt, .int .i64 l.sz, u] Tryd.underlying71 rfl ti71 z9 b17 rfl rfl) (ef0 (xst (vs := [.int .i64 l.kind, .int .i64 l.ck, .string l.nm, .string l.dt, .int .i64 l.sz, u]) ti71 z2 rfl rfl b18 rfl (Nat.le_of_ble_eq_true rfl) (oc rfl (oc rfl (oc rfl (oc rfl (oc rfl (oc (R20).oneCell on))))))) ?_))))
                rintro w19 ⟨-, b19, c19⟩
                have H10 : Hold w [] w19 [rB g2 71 ([.int .i64 l.kind, .int .i64 l.ck, .string l.nm, .string l.dt, .int .i64 l.sz, u]), rR kStr 9 (.slice (some ⟨gv, 0, none⟩) fs.length fs.length) fs, rMS mp (parsersL pg2 pg3 pg4 pg5 pg6 pg7), rB pg2 2 ([.int .i64 2]), rB pg3 2 ([.int .i64 4]), rB pg4 2 ([.int .i64 5]), rB pg5 2 ([.int .i64 6]), rB pg6 2 ([.int .i64 7]), rB pg7 2 ([.int .i64 8]), rR i64 2 u l.ns, rB g9 71 ([.int .i64 l.kind, .int .i64 l.ck, .string l.nm, .string l.dt, .int .i64 l.sz, u])] := Hold.setB H9 0 rfl b19 c19 rfl
                clear H9
                clear b19 c19
                refine re (rt ?_)
                have b21 : B w19 g2 71 ([.int .i64 l.kind, .int .i64 l.ck, .string l.nm, .string l.dt, .int .i64 l.sz, u]) := Hold.blk H10 0 rfl
                have H11 : Hold w [] w19 [rR i64 2 u l.ns] := (show Hold w [] w19 ([rR i64 2 u l.ns] ++ [rB g2 71 ([.int .i64 l.kind, .int .i64 l.ck, .string l.nm, .string l.dt, .int .i64 l.sz, u]), rR kStr 9 (.slice (some ⟨gv, 0, none⟩) fs.length fs.length) fs, rMS mp (parsersL pg2 pg3 pg4 pg5 pg6 pg7), rB pg2 2 ([.int .i64 2]), rB pg3 2 ([.int .i64 4]), rB pg4 2 ([.int .i64 5]), rB pg5 2 ([.int .i64 6]), rB pg6 2 ([.int .i64 7]), rB pg7 2 ([.int .i64 8]), rB g9 71 ([.int .i64 l.kind, .int .i64 l.ck, .string l.nm, .string l.dt, .int .i64 l.sz, u])]) from Hold.re H10 [9, 0, 1, 2, 3, 4, 5, 6, 7, 8, 10] (by kernel_rfl) (by rfl)).drop
                clear H10
                exact finc  (cs := [.int .i64 l.kind, .int .i64 l.ck, .string l.nm, .string l.dt, .int .i64 l.sz, u]) Tryd.results34 Tryd.underlying71 rfl ti71 z2 b21 rfl  ⟨u, by rw [hL], by rw [hL]; exact H11⟩
            · have hn_list := hk
              by_cases hk : f0 = kSync
              · refine sq ?_
                refine rde mixed ?_
                intro w4 c4
                have H4 : Hold w [] w4 [rB g2 71 ([.int .i64 0, .int .i64 0, .string ⟨#[]⟩, .string ⟨#[]⟩, .int .i64 0, .slice none 0 0]), rR kStr 9 (.slice (some ⟨gv, 0, none⟩) fs.length fs.length) fs] := Hold.t H3 c4
                clear H3
                clear c4
                have H5d0 : Hold w4 [] w4 [] := Hold.start w4
                refine ⟨fun w' => Ch [] w4 w', Ch.refl _ _, ?_⟩
                obtain ⟨_, R6⟩ : ∃ F, Kd.R kStr w4 F (.slice (some ⟨gv, 0, none⟩) fs.length fs.length) fs := Hold.row H4 1 rfl
                refine edt 1 rfl (by kernel_rfl) (fun w' hS => mv y3) ?_
                obtain ⟨c48_7, ad48_7, k48_7, e48_7, p48_7⟩ := Kd.R.place R6 0 ((by omega))
                refine edt 2 rfl (by kernel_rfl) (fun w' hS => ix (j := 0) Tryd.underlying54 ti9 e48_7 rfl ((by omega))) (edt 3 rfl (by kernel_rfl) (fun w' hS => Rn.cast (v' := .string (⟨#[115, 121, 110, 99]⟩ : ByteArray)) (ld Tryd.underlying9 rfl rfl (Ch.cell hS p48_7.cell)) (congrArg Value.string ((gd _).trans (hf0.symm.trans hk)))) (ed1 0 (by kernel_rfl) <| euc rfl go79 an (parsers) ?_))
                rintro r wp ⟨mp, pg2, pg3, pg4, pg5, pg6, pg7, rfl, Hp⟩
                have H5d : Hold w4 [] wp [rMS mp (parsersL pg2 pg3 pg4 pg5 pg6 pg7), rB pg2 2 ([.int .i64 2]), rB pg3 2 ([.int .i64 4]), rB pg4 2 ([.int .i64 5]), rB pg5 2 ([.int .i64 6]), rB pg6 2 ([.int .i64 7]), rB pg7 2 ([.int .i64 8])] := Hold.news H5d0 Hp
                clear H5d0
                clear Hp
                refine ⟨.inr (Hold.ch H5d), ?_⟩
                refine ed1 4 (by kernel_rfl) <| eur rfl (Rn.cast (v' := .tuple #[.func (.func 128) #[] [.pointer (some ⟨pg5, 0, none⟩)].toArray, .bool true]) (lkps Tryd.underlying121 Tryd.underlying9 ti119 rfl rfl (Hold.mps (g := mp) H5d 0 rfl)) (by simp [lookS, parsersL])) (.inr (Hold.ch H5d)) ?_
                refine edt 5 rfl (by kernel_rfl) (fun w' hS => mv rfl) (edt 6 rfl (by kernel_rfl) (fun w' hS => xt rfl rfl) (edt 7 rfl (by kernel_rfl) (fun w' hS => xt rfl rfl) (edt 8 rfl (by kernel_rfl) (fun w' hS => sa rfl) ?_)))
                have H6 : Hold w [] wp [rB g2 71 ([.int .i64 0, .int .i64 0, .string ⟨#[]⟩, .string ⟨#[]⟩, .int .i64 0, .slice none 0 0]), rR kStr 9 (.slice (some ⟨gv, 0, none⟩) fs.length fs.length) fs, rMS mp (parsersL pg2 pg3 pg4 pg5 pg6 pg7), rB pg2 2 ([.int .i64 2]), rB pg3 2 ([.int .i64 4]), rB pg4 2 ([.int .i64 5]), rB pg5 2 ([.int .i64 6]), rB pg6 2 ([.int .i64 7]), rB pg7 2 ([.int .i64 8])] := Hold.news H4 H5d
                clear H5d H4
                refine ed1 9 (by kernel_rfl) <| eur rfl (sa rfl) (.inl (by kernel_rfl)) ?_
                refine edd (by kernel_rfl) ?_
                refine sq (sq ?_)
                refine gen (fun ρ => ρ 2 = .pointer (some ⟨g2, 0, none⟩) ∧ ρ 3 = .slice (some ⟨gv, 0, none⟩) fs.length fs.length ∧ ρ 7 = .func (.func 128) #[] [.pointer (some ⟨pg5, 0, none⟩)].toArray ∧ ρ 8 = .bool true ∧ True) ⟨y2, y3, rfl, rfl, trivial⟩ ?_
                rintro ρ ⟨z2, z3, z7, z8, -⟩
                obtain ⟨_, R9⟩ : ∃ F, Kd.R kStr wp F (.slice (some ⟨gv, 0, none⟩) fs.length fs.length) fs := Hold.row H6 1 rfl
                refine rg (r (mv z8) (r (nt rfl) (re (cf rfl (sk (sq (rg (r (mv z7) (r (mv z3) ?_)))))))))
                have hL0 : lineV xs = lineF (kSync :: fs.drop 1) := hk ▸ hV0
                have b11 : B wp pg5 2 ([.int .i64 6]) := Hold.blk H6 6 rfl
                obtain ⟨F12, us12, R12⟩ := Kd.R.sl R9 (1) (fs.length) (by first | omega | (simp; omega)) (by first | omega | (simp; omega))
                have e12 : (fs.take fs.length).drop 1 = fs.drop 1 := by first | (rw [List.take_length, List.drop_drop]; done) | (rw [List.drop_take]; done) | (simp; done) | (rw [List.drop_take]; congr 1; omega) | (rw [List.take_length, List.drop_drop]; congr 1; omega)
                rw [e12] at R12
                refine r (slrl (1) Tryd.underlying54 ti9 R9 rfl rfl (by omega)) (clv rfl go128 (ac rfl an) (bare_sync b11 R12 lgs) ?_)
                rintro r wq ⟨l, okb, u, rfl, hl, Hq⟩
                have H7 : Hold w [] wq [rB g2 71 ([.int .i64 0, .int .i64 0, .string ⟨#[]⟩, .string ⟨#[]⟩, .int .i64 0, .slice none 0 0]), rR kStr 9 (.slice (some ⟨gv, 0, none⟩) fs.length fs.length) fs, rMS mp (parsersL pg2 pg3 pg4 pg5 pg6 pg7), rB pg2 2 ([.int .i64 2]), rB pg3 2 ([.int .i64 4]), rB pg4 2 ([.int .i64 5]), rB pg5 2 ([.int .i64 6]), rB pg6 2 ([.int .i64 7]), rB pg7 2 ([.int .i64 8]), rR i64 2 u l.ns] := Hold.news H6 Hq
                clear H6
                clear Hq
                refine r (mv rfl) (r (xt rfl rfl) (r (xt rfl rfl) (ef (xal ti71) ?_)))
                rintro _ w13 ⟨g9, e13, rfl, -, b13, c13⟩
                have H8 : Hold w [] w13 [rB g2 71 ([.int .i64 0, .int .i64 0, .string ⟨#[]⟩, .string ⟨#[]⟩, .int .i64 0, .slice none 0 0]), rR kStr 9 (.slice (some ⟨gv, 0, none⟩) fs.length fs.length) fs, rMS mp (parsersL pg2 pg3 pg4 pg5 pg6 pg7), rB pg2 2 ([.int .i64 2]), rB pg3 2 ([.int .i64 4]), rB pg4 2 ([.int .i64 5]), rB pg5 2 ([.int .i64 6]), rB pg6 2 ([.int .i64 7]), rB pg7 2 ([.int .i64 8]), rR i64 2 u l.ns, rB g9 71 ([.int .i64 0, .int .i64 0, .string ⟨#[]⟩, .string ⟨#[]⟩, .int .i64 0, .slice none 0 0])] := Hold.newB H7 e13 b13 c13
                clear H7
                clear e13 b13 c13
                have b14 : B w13 g9 71 ([.int .i64 0, .int .i64 0, .string ⟨#[]⟩, .string ⟨#[]⟩, .int .i64 0, .slice none 0 0]) := Hold.blk H8 10 rfl
                obtain ⟨_, R16⟩ : ∃ F, Kd.R i64 w13 F u l.ns := Hold.row H8 9 rfl
                refine ef0 (xst (vs := [.int .i64 l.kind, .int .i64 l.ck, .string l.nm, .string l.dt, .int .i64 l.sz, u]) ti71 rfl rfl rfl b14 rfl (Nat.le_of_ble_eq_true rfl) (oc rfl (oc rfl (oc rfl (oc rfl (oc rfl (oc (R16).oneCell on))))))) ?_
                rintro w15 ⟨-, b15, c15⟩
                have H9 : Hold w [] w15 [rB g2 71 ([.int .i64 0, .int .i64 0, .string ⟨#[]⟩, .string ⟨#[]⟩, .int .i64 0, .slice none 0 0]), rR kStr 9 (.slice (some ⟨gv, 0, none⟩) fs.length fs.length) fs, rMS mp (parsersL pg2 pg3 pg4 pg5 pg6 pg7), rB pg2 2 ([.int .i64 2]), rB pg3 2 ([.int .i64 4]), rB pg4 2 ([.int .i64 5]), rB pg5 2 ([.int .i64 6]), rB pg6 2 ([.int .i64 7]), rB pg7 2 ([.int .i64 8]), rR i64 2 u l.ns, rB g9 71 ([.int .i64 l.kind, .int .i64 l.ck, .string l.nm, .string l.dt, .int .i64 l.sz, u])] := Hold.setB H8 10 rfl b15 c15 rfl
                clear H8
                clear b15 c15
                refine r (sa rfl) (re (sq (sq ?_)))
                refine gen (fun ρ => ρ 2 = .pointer (some ⟨g2, 0, none⟩) ∧ ρ 9 = .pointer (some ⟨g9, 0, none⟩) ∧ ρ 10 = .bool okb ∧ True) ⟨z2, rfl, rfl, trivial⟩ ?_
                rintro ρ ⟨z2, z9, z10, -⟩
                refine rg (r (mv z10) (r (nt rfl) (re ?_)))
                refine cd rfl (fun hok => ?_) (fun hok => ?_)
                · have hL : lineV xs = badL := by rw [hL0, ← hl, if_neg (by simpa using hok)]
                  have b17 : B w15 g2 71 ([.int .i64 0, .int .i64 0, .string ⟨#[]⟩, .string ⟨#[]⟩, .int .i64 0, .slice none 0 0]) := Hold.blk H9 0 rfl
                  refine sq (rg (r (bd (r := [.int .i64 0, .int .i64 0, .string ⟨#[]⟩, .string ⟨#[]⟩, .int .i64 0, .slice none 0 0]) ti71 pl71 pn rfl) (ef0 (xst (vs := [.int .i64 0, .int .i64 0, .string ⟨#[]⟩, .string ⟨#[]⟩, .int .i64 0, .slice none 0 0]) ti71 z2 rfl rfl b17 rfl (Nat.le_of_ble_eq_true rfl) (one_all rfl)) ?_)))
                  rintro w18 ⟨-, b18, c18⟩
                  have H10 : Hold w [] w18 [rB g2 71 ([.int .i64 0, .int .i64 0, .string ⟨#[]⟩, .string ⟨#[]⟩, .int .i64 0, .slice none 0 0]), rR kStr 9 (.slice (some ⟨gv, 0, none⟩) fs.length fs.length) fs, rMS mp (parsersL pg2 pg3 pg4 pg5 pg6 pg7), rB pg2 2 ([.int .i64 2]), rB pg3 2 ([.int .i64 4]), rB pg4 2 ([.int .i64 5]), rB pg5 2 ([.int .i64 6]), rB pg6 2 ([.int .i64 7]), rB pg7 2 ([.int .i64 8]), rR i64 2 u l.ns, rB g9 71 ([.int .i64 l.kind, .int .i64 l.ck, .string l.nm, .string l.dt, .int .i64 l.sz, u])] := Hold.setB H9 0 rfl b18 c18 rfl
                  clear H9
                  clear b18 c18
                  refine re (rt ?_)
                  have H11 : Hold w [] w18 [rB g2 71 ([.int .i64 0, .int .i64 0, .string ⟨#[]⟩, .string ⟨#[]⟩, .int .i64 0, .slice none 0 0]), rR kStr 9 (.slice (some ⟨gv, 0, none⟩) fs.length fs.length) fs, rMS mp (parsersL pg2 pg3 pg4 pg5 pg6 pg7), rB pg2 2 ([.int .i64 2]), rB pg3 2 ([.int .i64 4]), rB pg4 2 ([.int .i64 5]), rB pg5 2 ([.int .i64 6]), rB pg6 2 ([.int .i64 7]), rB pg7 2 ([.int .i64 8]), rR i64 2 u l.ns, rB g9 71 ([.int .i64 l.kind, .int .i64 l.ck, .string l.nm, .string l.dt, .int .i64 l.sz, u]), rR i64 2 (.slice none 0 0) ([])] := Hold.nilrow i64 2 H10
                  clear H10
                  have b19 : B w18 g2 71 ([.int .i64 0, .int .i64 0, .string ⟨#[]⟩, .string ⟨#[]⟩, .int .i64 0, .slice none 0 0]) := Hold.blk H11 0 rfl
                  have H12 : Hold w [] w18 [rR i64 2 (.slice none 0 0) ([])] := (show Hold w [] w18 ([rR i64 2 (.slice none 0 0) ([])] ++ [rB g2 71 ([.int .i64 0, .int .i64 0, .string ⟨#[]⟩, .string ⟨#[]⟩, .int .i64 0, .slice none 0 0]), rR kStr 9 (.slice (some ⟨gv, 0, none⟩) fs.length fs.length) fs, rMS mp (parsersL pg2 pg3 pg4 pg5 pg6 pg7), rB pg2 2 ([.int .i64 2]), rB pg3 2 ([.int .i64 4]), rB pg4 2 ([.int .i64 5]), rB pg5 2 ([.int .i64 6]), rB pg6 2 ([.int .i64 7]), rB pg7 2 ([.int .i64 8]), rR i64 2 u l.ns, rB g9 71 ([.int .i64 l.kind, .int .i64 l.ck, .string l.nm, .string l.dt, .int .i64 l.sz, u])]) from Hold.re H11 [11, 0, 1, 2, 3, 4, 5, 6, 7, 8, 9, 10] (by kernel_rfl) (by rfl)).drop
                  clear H11
                  exact finc  (cs := [.int .i64 0, .int .i64 0, .string ⟨#[]⟩, .string ⟨#[]⟩, .int .i64 0, .slice none 0 0]) Tryd.results34 Tryd.underlying71 rfl ti71 z2 b19 rfl  ⟨_, by rw [hL], by rw [hL]; exact H12⟩
                · have hL : lineV xs = l := by rw [hL0, ← hl, if_pos (by simpa using hok)]
                  have b17 : B w15 g9 71 ([.int .i64 l.kind, .int .i64 l.ck, .string l.nm, .string l.dt, .int .i64 l.sz, u]) := Hold.blk H9 10 rfl
                  have b18 : B w15 g2 71 ([.int .i64 0, .int .i64 0, .string ⟨#[]⟩, .string ⟨#[]⟩, .int .i64 0, .slice none 0 0]) := Hold.blk H9 0 rfl
                  obtain ⟨_, R20⟩ : ∃ F, Kd.R i64 w15 F u l.ns := Hold.row H9 9 rfl
                  refine sk (sq (rg (r (lab [.int .i64 l.kind, .int .i64 l.ck, .string l.nm, .string l.dt, .int .i64 l.sz, u] Tryd.underlying71 rfl ti71 z9 b17 rfl rfl) (ef0 (xst (vs := [.int .i64 l.kind, .int .i64 l.ck, .string l.nm, .string l.dt, .int .i64 l.sz, u]) ti71 z2 rfl rfl b18 rfl (Nat.le_of_ble_eq_true rfl) (oc rfl (oc rfl (oc rfl (oc rfl (oc rfl (oc (R20).oneCell on))))))) ?_))))
                  rintro w19 ⟨-, b19, c19⟩
                  have H10 : Hold w [] w19 [rB g2 71 ([.int .i64 l.kind, .int .i64 l.ck, .string l.nm, .string l.dt, .int .i64 l.sz, u]), rR kStr 9 (.slice (some ⟨gv, 0, none⟩) fs.length fs.length) fs, rMS mp (parsersL pg2 pg3 pg4 pg5 pg6 pg7), rB pg2 2 ([.int .i64 2]), rB pg3 2 ([.int .i64 4]), rB pg4 2 ([.int .i64 5]), rB pg5 2 ([.int .i64 6]), rB pg6 2 ([.int .i64 7]), rB pg7 2 ([.int .i64 8]), rR i64 2 u l.ns, rB g9 71 ([.int .i64 l.kind, .int .i64 l.ck, .string l.nm, .string l.dt, .int .i64 l.sz, u])] := Hold.setB H9 0 rfl b19 c19 rfl
                  clear H9
                  clear b19 c19
                  refine re (rt ?_)
                  have b21 : B w19 g2 71 ([.int .i64 l.kind, .int .i64 l.ck, .string l.nm, .string l.dt, .int .i64 l.sz, u]) := Hold.blk H10 0 rfl
                  have H11 : Hold w [] w19 [rR i64 2 u l.ns] := (show Hold w [] w19 ([rR i64 2 u l.ns] ++ [rB g2 71 ([.int .i64 l.kind, .int .i64 l.ck, .string l.nm, .string l.dt, .int .i64 l.sz, u]), rR kStr 9 (.slice (some ⟨gv, 0, none⟩) fs.length fs.length) fs, rMS mp (parsersL pg2 pg3 pg4 pg5 pg6 pg7), rB pg2 2 ([.int .i64 2]), rB pg3 2 ([.int .i64 4]), rB pg4 2 ([.int .i64 5]), rB pg5 2 ([.int .i64 6]), rB pg6 2 ([.int .i64 7]), rB pg7 2 ([.int .i64 8]), rB g9 71 ([.int .i64 l.kind, .int .i64 l.ck, .string l.nm, .string l.dt, .int .i64 l.sz, u])]) from Hold.re H10 [9, 0, 1, 2, 3, 4, 5, 6, 7, 8, 10] (by kernel_rfl) (by rfl)).drop
                  clear H10
                  exact finc  (cs := [.int .i64 l.kind, .int .i64 l.ck, .string l.nm, .string l.dt, .int .i64 l.sz, u]) Tryd.results34 Tryd.underlying71 rfl ti71 z2 b21 rfl  ⟨u, by rw [hL], by rw [hL]; exact H11⟩
              · have hn_sync := hk
                by_cases hk : f0 = kClean
                · refine sq ?_
                  refine rde mixed ?_
                  intro w4 c4
                  have H4 : Hold w [] w4 [rB g2 71 ([.int .i64 0, .int .i64 0, .string ⟨#[]⟩, .string ⟨#[]⟩, .int .i64 0, .slice none 0 0]), rR kStr 9 (.slice (some ⟨gv, 0, none⟩) fs.length fs.length) fs] := Hold.t H3 c4
                  clear H3
                  clear c4
                  have H5d0 : Hold w4 [] w4 [] := Hold.start w4
                  refine ⟨fun w' => Ch [] w4 w', Ch.refl _ _, ?_⟩
                  obtain ⟨_, R6⟩ : ∃ F, Kd.R kStr w4 F (.slice (some ⟨gv, 0, none⟩) fs.length fs.length) fs := Hold.row H4 1 rfl
                  refine edt 1 rfl (by kernel_rfl) (fun w' hS => mv y3) ?_
                  obtain ⟨c48_7, ad48_7, k48_7, e48_7, p48_7⟩ := Kd.R.place R6 0 ((by omega))
                  refine edt 2 rfl (by kernel_rfl) (fun w' hS => ix (j := 0) Tryd.underlying54 ti9 e48_7 rfl ((by omega))) (edt 3 rfl (by kernel_rfl) (fun w' hS => Rn.cast (v' := .string (⟨#[99, 108, 101, 97, 110]⟩ : ByteArray)) (ld Tryd.underlying9 rfl rfl (Ch.cell hS p48_7.cell)) (congrArg Value.string ((gd _).trans (hf0.symm.trans hk)))) (ed1 0 (by kernel_rfl) <| euc rfl go79 an (parsers) ?_))
                  rintro r wp ⟨mp, pg2, pg3, pg4, pg5, pg6, pg7, rfl, Hp⟩
                  have H5d : Hold w4 [] wp [rMS mp (parsersL pg2 pg3 pg4 pg5 pg6 pg7), rB pg2 2 ([.int .i64 2]), rB pg3 2 ([.int .i64 4]), rB pg4 2 ([.int .i64 5]), rB pg5 2 ([.int .i64 6]), rB pg6 2 ([.int .i64 7]), rB pg7 2 ([.int .i64 8])] := Hold.news H5d0 Hp
                  clear H5d0
                  clear Hp
                  refine ⟨.inr (Hold.ch H5d), ?_⟩
                  refine ed1 4 (by kernel_rfl) <| eur rfl (Rn.cast (v' := .tuple #[.func (.func 128) #[] [.pointer (some ⟨pg6, 0, none⟩)].toArray, .bool true]) (lkps Tryd.underlying121 Tryd.underlying9 ti119 rfl rfl (Hold.mps (g := mp) H5d 0 rfl)) (by simp [lookS, parsersL])) (.inr (Hold.ch H5d)) ?_
                  refine edt 5 rfl (by kernel_rfl) (fun w' hS => mv rfl) (edt 6 rfl (by kernel_rfl) (fun w' hS => xt rfl rfl) (edt 7 rfl (by kernel_rfl) (fun w' hS => xt rfl rfl) (edt 8 rfl (by kernel_rfl) (fun w' hS => sa rfl) ?_)))
                  have H6 : Hold w [] wp [rB g2 71 ([.int .i64 0, .int .i64 0, .string ⟨#[]⟩, .string ⟨#[]⟩, .int .i64 0, .slice none 0 0]), rR kStr 9 (.slice (some ⟨gv, 0, none⟩) fs.length fs.length) fs, rMS mp (parsersL pg2 pg3 pg4 pg5 pg6 pg7), rB pg2 2 ([.int .i64 2]), rB pg3 2 ([.int .i64 4]), rB pg4 2 ([.int .i64 5]), rB pg5 2 ([.int .i64 6]), rB pg6 2 ([.int .i64 7]), rB pg7 2 ([.int .i64 8])] := Hold.news H4 H5d
                  clear H5d H4
                  refine ed1 9 (by kernel_rfl) <| eur rfl (sa rfl) (.inl (by kernel_rfl)) ?_
                  refine edd (by kernel_rfl) ?_
                  refine sq (sq ?_)
                  refine gen (fun ρ => ρ 2 = .pointer (some ⟨g2, 0, none⟩) ∧ ρ 3 = .slice (some ⟨gv, 0, none⟩) fs.length fs.length ∧ ρ 7 = .func (.func 128) #[] [.pointer (some ⟨pg6, 0, none⟩)].toArray ∧ ρ 8 = .bool true ∧ True) ⟨y2, y3, rfl, rfl, trivial⟩ ?_
                  rintro ρ ⟨z2, z3, z7, z8, -⟩
                  obtain ⟨_, R9⟩ : ∃ F, Kd.R kStr wp F (.slice (some ⟨gv, 0, none⟩) fs.length fs.length) fs := Hold.row H6 1 rfl
                  refine rg (r (mv z8) (r (nt rfl) (re (cf rfl (sk (sq (rg (r (mv z7) (r (mv z3) ?_)))))))))
                  have hL0 : lineV xs = lineF (kClean :: fs.drop 1) := hk ▸ hV0
                  have b11 : B wp pg6 2 ([.int .i64 7]) := Hold.blk H6 7 rfl
                  obtain ⟨F12, us12, R12⟩ := Kd.R.sl R9 (1) (fs.length) (by first | omega | (simp; omega)) (by first | omega | (simp; omega))
                  have e12 : (fs.take fs.length).drop 1 = fs.drop 1 := by first | (rw [List.take_length, List.drop_drop]; done) | (rw [List.drop_take]; done) | (simp; done) | (rw [List.drop_take]; congr 1; omega) | (rw [List.take_length, List.drop_drop]; congr 1; omega)
                  rw [e12] at R12
                  refine r (slrl (1) Tryd.underlying54 ti9 R9 rfl rfl (by omega)) (clv rfl go128 (ac rfl an) (bare_clean b11 R12 lgs) ?_)
                  rintro r wq ⟨l, okb, u, rfl, hl, Hq⟩
                  have H7 : Hold w [] wq [rB g2 71 ([.int .i64 0, .int .i64 0, .string ⟨#[]⟩, .string ⟨#[]⟩, .int .i64 0, .slice none 0 0]), rR kStr 9 (.slice (some ⟨gv, 0, none⟩) fs.length fs.length) fs, rMS mp (parsersL pg2 pg3 pg4 pg5 pg6 pg7), rB pg2 2 ([.int .i64 2]), rB pg3 2 ([.int .i64 4]), rB pg4 2 ([.int .i64 5]), rB pg5 2 ([.int .i64 6]), rB pg6 2 ([.int .i64 7]), rB pg7 2 ([.int .i64 8]), rR i64 2 u l.ns] := Hold.news H6 Hq
                  clear H6
                  clear Hq
                  refine r (mv rfl) (r (xt rfl rfl) (r (xt rfl rfl) (ef (xal ti71) ?_)))
                  rintro _ w13 ⟨g9, e13, rfl, -, b13, c13⟩
                  have H8 : Hold w [] w13 [rB g2 71 ([.int .i64 0, .int .i64 0, .string ⟨#[]⟩, .string ⟨#[]⟩, .int .i64 0, .slice none 0 0]), rR kStr 9 (.slice (some ⟨gv, 0, none⟩) fs.length fs.length) fs, rMS mp (parsersL pg2 pg3 pg4 pg5 pg6 pg7), rB pg2 2 ([.int .i64 2]), rB pg3 2 ([.int .i64 4]), rB pg4 2 ([.int .i64 5]), rB pg5 2 ([.int .i64 6]), rB pg6 2 ([.int .i64 7]), rB pg7 2 ([.int .i64 8]), rR i64 2 u l.ns, rB g9 71 ([.int .i64 0, .int .i64 0, .string ⟨#[]⟩, .string ⟨#[]⟩, .int .i64 0, .slice none 0 0])] := Hold.newB H7 e13 b13 c13
                  clear H7
                  clear e13 b13 c13
                  have b14 : B w13 g9 71 ([.int .i64 0, .int .i64 0, .string ⟨#[]⟩, .string ⟨#[]⟩, .int .i64 0, .slice none 0 0]) := Hold.blk H8 10 rfl
                  obtain ⟨_, R16⟩ : ∃ F, Kd.R i64 w13 F u l.ns := Hold.row H8 9 rfl
                  refine ef0 (xst (vs := [.int .i64 l.kind, .int .i64 l.ck, .string l.nm, .string l.dt, .int .i64 l.sz, u]) ti71 rfl rfl rfl b14 rfl (Nat.le_of_ble_eq_true rfl) (oc rfl (oc rfl (oc rfl (oc rfl (oc rfl (oc (R16).oneCell on))))))) ?_
                  rintro w15 ⟨-, b15, c15⟩
                  have H9 : Hold w [] w15 [rB g2 71 ([.int .i64 0, .int .i64 0, .string ⟨#[]⟩, .string ⟨#[]⟩, .int .i64 0, .slice none 0 0]), rR kStr 9 (.slice (some ⟨gv, 0, none⟩) fs.length fs.length) fs, rMS mp (parsersL pg2 pg3 pg4 pg5 pg6 pg7), rB pg2 2 ([.int .i64 2]), rB pg3 2 ([.int .i64 4]), rB pg4 2 ([.int .i64 5]), rB pg5 2 ([.int .i64 6]), rB pg6 2 ([.int .i64 7]), rB pg7 2 ([.int .i64 8]), rR i64 2 u l.ns, rB g9 71 ([.int .i64 l.kind, .int .i64 l.ck, .string l.nm, .string l.dt, .int .i64 l.sz, u])] := Hold.setB H8 10 rfl b15 c15 rfl
                  clear H8
                  clear b15 c15
                  refine r (sa rfl) (re (sq (sq ?_)))
                  refine gen (fun ρ => ρ 2 = .pointer (some ⟨g2, 0, none⟩) ∧ ρ 9 = .pointer (some ⟨g9, 0, none⟩) ∧ ρ 10 = .bool okb ∧ True) ⟨z2, rfl, rfl, trivial⟩ ?_
                  rintro ρ ⟨z2, z9, z10, -⟩
                  refine rg (r (mv z10) (r (nt rfl) (re ?_)))
                  refine cd rfl (fun hok => ?_) (fun hok => ?_)
                  · have hL : lineV xs = badL := by rw [hL0, ← hl, if_neg (by simpa using hok)]
                    have b17 : B w15 g2 71 ([.int .i64 0, .int .i64 0, .string ⟨#[]⟩, .string ⟨#[]⟩, .int .i64 0, .slice none 0 0]) := Hold.blk H9 0 rfl
                    refine sq (rg (r (bd (r := [.int .i64 0, .int .i64 0, .string ⟨#[]⟩, .string ⟨#[]⟩, .int .i64 0, .slice none 0 0]) ti71 pl71 pn rfl) (ef0 (xst (vs := [.int .i64 0, .int .i64 0, .string ⟨#[]⟩, .string ⟨#[]⟩, .int .i64 0, .slice none 0 0]) ti71 z2 rfl rfl b17 rfl (Nat.le_of_ble_eq_true rfl) (one_all rfl)) ?_)))
                    rintro w18 ⟨-, b18, c18⟩
                    have H10 : Hold w [] w18 [rB g2 71 ([.int .i64 0, .int .i64 0, .string ⟨#[]⟩, .string ⟨#[]⟩, .int .i64 0, .slice none 0 0]), rR kStr 9 (.slice (some ⟨gv, 0, none⟩) fs.length fs.length) fs, rMS mp (parsersL pg2 pg3 pg4 pg5 pg6 pg7), rB pg2 2 ([.int .i64 2]), rB pg3 2 ([.int .i64 4]), rB pg4 2 ([.int .i64 5]), rB pg5 2 ([.int .i64 6]), rB pg6 2 ([.int .i64 7]), rB pg7 2 ([.int .i64 8]), rR i64 2 u l.ns, rB g9 71 ([.int .i64 l.kind, .int .i64 l.ck, .string l.nm, .string l.dt, .int .i64 l.sz, u])] := Hold.setB H9 0 rfl b18 c18 rfl
                    clear H9
                    clear b18 c18
                    refine re (rt ?_)
                    have H11 : Hold w [] w18 [rB g2 71 ([.int .i64 0, .int .i64 0, .string ⟨#[]⟩, .string ⟨#[]⟩, .int .i64 0, .slice none 0 0]), rR kStr 9 (.slice (some ⟨gv, 0, none⟩) fs.length fs.length) fs, rMS mp (parsersL pg2 pg3 pg4 pg5 pg6 pg7), rB pg2 2 ([.int .i64 2]), rB pg3 2 ([.int .i64 4]), rB pg4 2 ([.int .i64 5]), rB pg5 2 ([.int .i64 6]), rB pg6 2 ([.int .i64 7]), rB pg7 2 ([.int .i64 8]), rR i64 2 u l.ns, rB g9 71 ([.int .i64 l.kind, .int .i64 l.ck, .string l.nm, .string l.dt, .int .i64 l.sz, u]), rR i64 2 (.slice none 0 0) ([])] := Hold.nilrow i64 2 H10
                    clear H10
                    have b19 : B w18 g2 71 ([.int .i64 0, .int .i64 0, .string ⟨#[]⟩, .string ⟨#[]⟩, .int .i64 0, .slice none 0 0]) := Hold.blk H11 0 rfl
                    have H12 : Hold w [] w18 [rR i64 2 (.slice none 0 0) ([])] := (show Hold w [] w18 ([rR i64 2 (.slice none 0 0) ([])] ++ [rB g2 71 ([.int .i64 0, .int .i64 0, .string ⟨#[]⟩, .string ⟨#[]⟩, .int .i64 0, .slice none 0 0]), rR kStr 9 (.slice (some ⟨gv, 0, none⟩) fs.length fs.length) fs, rMS mp (parsersL pg2 pg3 pg4 pg5 pg6 pg7), rB pg2 2 ([.int .i64 2]), rB pg3 2 ([.int .i64 4]), rB pg4 2 ([.int .i64 5]), rB pg5 2 ([.int .i64 6]), rB pg6 2 ([.int .i64 7]), rB pg7 2 ([.int .i64 8]), rR i64 2 u l.ns, rB g9 71 ([.int .i64 l.kind, .int .i64 l.ck, .string l.nm, .string l.dt, .int .i64 l.sz, u])]) from Hold.re H11 [11, 0, 1, 2, 3, 4, 5, 6, 7, 8, 9, 10] (by kernel_rfl) (by rfl)).drop
                    clear H11
                    exact finc  (cs := [.int .i64 0, .int .i64 0, .string ⟨#[]⟩, .string ⟨#[]⟩, .int .i64 0, .slice none 0 0]) Tryd.results34 Tryd.underlying71 rfl ti71 z2 b19 rfl  ⟨_, by rw [hL], by rw [hL]; exact H12⟩
                  · have hL : lineV xs = l := by rw [hL0, ← hl, if_pos (by simpa using hok)]
                    have b17 : B w15 g9 71 ([.int .i64 l.kind, .int .i64 l.ck, .string l.nm, .string l.dt, .int .i64 l.sz, u]) := Hold.blk H9 10 rfl
                    have b18 : B w15 g2 71 ([.int .i64 0, .int .i64 0, .string ⟨#[]⟩, .string ⟨#[]⟩, .int .i64 0, .slice none 0 0]) := Hold.blk H9 0 rfl
                    obtain ⟨_, R20⟩ : ∃ F, Kd.R i64 w15 F u l.ns := Hold.row H9 9 rfl
                    refine sk (sq (rg (r (lab [.int .i64 l.kind, .int .i64 l.ck, .string l.nm, .string l.dt, .int .i64 l.sz, u] Tryd.underlying71 rfl ti71 z9 b17 rfl rfl) (ef0 (xst (vs := [.int .i64 l.kind, .int .i64 l.ck, .string l.nm, .string l.dt, .int .i64 l.sz, u]) ti71 z2 rfl rfl b18 rfl (Nat.le_of_ble_eq_true rfl) (oc rfl (oc rfl (oc rfl (oc rfl (oc rfl (oc (R20).oneCell on))))))) ?_))))
                    rintro w19 ⟨-, b19, c19⟩
                    have H10 : Hold w [] w19 [rB g2 71 ([.int .i64 l.kind, .int .i64 l.ck, .string l.nm, .string l.dt, .int .i64 l.sz, u]), rR kStr 9 (.slice (some ⟨gv, 0, none⟩) fs.length fs.length) fs, rMS mp (parsersL pg2 pg3 pg4 pg5 pg6 pg7), rB pg2 2 ([.int .i64 2]), rB pg3 2 ([.int .i64 4]), rB pg4 2 ([.int .i64 5]), rB pg5 2 ([.int .i64 6]), rB pg6 2 ([.int .i64 7]), rB pg7 2 ([.int .i64 8]), rR i64 2 u l.ns, rB g9 71 ([.int .i64 l.kind, .int .i64 l.ck, .string l.nm, .string l.dt, .int .i64 l.sz, u])] := Hold.setB H9 0 rfl b19 c19 rfl
                    clear H9
                    clear b19 c19
                    refine re (rt ?_)
                    have b21 : B w19 g2 71 ([.int .i64 l.kind, .int .i64 l.ck, .string l.nm, .string l.dt, .int .i64 l.sz, u]) := Hold.blk H10 0 rfl
                    have H11 : Hold w [] w19 [rR i64 2 u l.ns] := (show Hold w [] w19 ([rR i64 2 u l.ns] ++ [rB g2 71 ([.int .i64 l.kind, .int .i64 l.ck, .string l.nm, .string l.dt, .int .i64 l.sz, u]), rR kStr 9 (.slice (some ⟨gv, 0, none⟩) fs.length fs.length) fs, rMS mp (parsersL pg2 pg3 pg4 pg5 pg6 pg7), rB pg2 2 ([.int .i64 2]), rB pg3 2 ([.int .i64 4]), rB pg4 2 ([.int .i64 5]), rB pg5 2 ([.int .i64 6]), rB pg6 2 ([.int .i64 7]), rB pg7 2 ([.int .i64 8]), rB g9 71 ([.int .i64 l.kind, .int .i64 l.ck, .string l.nm, .string l.dt, .int .i64 l.sz, u])]) from Hold.re H10 [9, 0, 1, 2, 3, 4, 5, 6, 7, 8, 10] (by kernel_rfl) (by rfl)).drop
                    clear H10
                    exact finc  (cs := [.int .i64 l.kind, .int .i64 l.ck, .string l.nm, .string l.dt, .int .i64 l.sz, u]) Tryd.results34 Tryd.underlying71 rfl ti71 z2 b21 rfl  ⟨u, by rw [hL], by rw [hL]; exact H11⟩
                · have hn_clean := hk
                  by_cases hk : f0 = kStat
                  · refine sq ?_
                    refine rde mixed ?_
                    intro w4 c4
                    have H4 : Hold w [] w4 [rB g2 71 ([.int .i64 0, .int .i64 0, .string ⟨#[]⟩, .string ⟨#[]⟩, .int .i64 0, .slice none 0 0]), rR kStr 9 (.slice (some ⟨gv, 0, none⟩) fs.length fs.length) fs] := Hold.t H3 c4
                    clear H3
                    clear c4
                    have H5d0 : Hold w4 [] w4 [] := Hold.start w4
                    refine ⟨fun w' => Ch [] w4 w', Ch.refl _ _, ?_⟩
                    obtain ⟨_, R6⟩ : ∃ F, Kd.R kStr w4 F (.slice (some ⟨gv, 0, none⟩) fs.length fs.length) fs := Hold.row H4 1 rfl
                    refine edt 1 rfl (by kernel_rfl) (fun w' hS => mv y3) ?_
                    obtain ⟨c48_7, ad48_7, k48_7, e48_7, p48_7⟩ := Kd.R.place R6 0 ((by omega))
                    refine edt 2 rfl (by kernel_rfl) (fun w' hS => ix (j := 0) Tryd.underlying54 ti9 e48_7 rfl ((by omega))) (edt 3 rfl (by kernel_rfl) (fun w' hS => Rn.cast (v' := .string (⟨#[115, 116, 97, 116]⟩ : ByteArray)) (ld Tryd.underlying9 rfl rfl (Ch.cell hS p48_7.cell)) (congrArg Value.string ((gd _).trans (hf0.symm.trans hk)))) (ed1 0 (by kernel_rfl) <| euc rfl go79 an (parsers) ?_))
                    rintro r wp ⟨mp, pg2, pg3, pg4, pg5, pg6, pg7, rfl, Hp⟩
                    have H5d : Hold w4 [] wp [rMS mp (parsersL pg2 pg3 pg4 pg5 pg6 pg7), rB pg2 2 ([.int .i64 2]), rB pg3 2 ([.int .i64 4]), rB pg4 2 ([.int .i64 5]), rB pg5 2 ([.int .i64 6]), rB pg6 2 ([.int .i64 7]), rB pg7 2 ([.int .i64 8])] := Hold.news H5d0 Hp
                    clear H5d0
                    clear Hp
                    refine ⟨.inr (Hold.ch H5d), ?_⟩
                    refine ed1 4 (by kernel_rfl) <| eur rfl (Rn.cast (v' := .tuple #[.func (.func 128) #[] [.pointer (some ⟨pg7, 0, none⟩)].toArray, .bool true]) (lkps Tryd.underlying121 Tryd.underlying9 ti119 rfl rfl (Hold.mps (g := mp) H5d 0 rfl)) (by simp [lookS, parsersL])) (.inr (Hold.ch H5d)) ?_
                    refine edt 5 rfl (by kernel_rfl) (fun w' hS => mv rfl) (edt 6 rfl (by kernel_rfl) (fun w' hS => xt rfl rfl) (edt 7 rfl (by kernel_rfl) (fun w' hS => xt rfl rfl) (edt 8 rfl (by kernel_rfl) (fun w' hS => sa rfl) ?_)))
                    have H6 : Hold w [] wp [rB g2 71 ([.int .i64 0, .int .i64 0, .string ⟨#[]⟩, .string ⟨#[]⟩, .int .i64 0, .slice none 0 0]), rR kStr 9 (.slice (some ⟨gv, 0, none⟩) fs.length fs.length) fs, rMS mp (parsersL pg2 pg3 pg4 pg5 pg6 pg7), rB pg2 2 ([.int .i64 2]), rB pg3 2 ([.int .i64 4]), rB pg4 2 ([.int .i64 5]), rB pg5 2 ([.int .i64 6]), rB pg6 2 ([.int .i64 7]), rB pg7 2 ([.int .i64 8])] := Hold.news H4 H5d
                    clear H5d H4
                    refine ed1 9 (by kernel_rfl) <| eur rfl (sa rfl) (.inl (by kernel_rfl)) ?_
                    refine edd (by kernel_rfl) ?_
                    refine sq (sq ?_)
                    refine gen (fun ρ => ρ 2 = .pointer (some ⟨g2, 0, none⟩) ∧ ρ 3 = .slice (some ⟨gv, 0, none⟩) fs.length fs.length ∧ ρ 7 = .func (.func 128) #[] [.pointer (some ⟨pg7, 0, none⟩)].toArray ∧ ρ 8 = .bool true ∧ True) ⟨y2, y3, rfl, rfl, trivial⟩ ?_
                    rintro ρ ⟨z2, z3, z7, z8, -⟩
                    obtain ⟨_, R9⟩ : ∃ F, Kd.R kStr wp F (.slice (some ⟨gv, 0, none⟩) fs.length fs.length) fs := Hold.row H6 1 rfl
                    refine rg (r (mv z8) (r (nt rfl) (re (cf rfl (sk (sq (rg (r (mv z7) (r (mv z3) ?_)))))))))
                    have hL0 : lineV xs = lineF (kStat :: fs.drop 1) := hk ▸ hV0
                    have b11 : B wp pg7 2 ([.int .i64 8]) := Hold.blk H6 8 rfl
                    obtain ⟨F12, us12, R12⟩ := Kd.R.sl R9 (1) (fs.length) (by first | omega | (simp; omega)) (by first | omega | (simp; omega))
                    have e12 : (fs.take fs.length).drop 1 = fs.drop 1 := by first | (rw [List.take_length, List.drop_drop]; done) | (rw [List.drop_take]; done) | (simp; done) | (rw [List.drop_take]; congr 1; omega) | (rw [List.take_length, List.drop_drop]; congr 1; omega)
                    rw [e12] at R12
                    refine r (slrl (1) Tryd.underlying54 ti9 R9 rfl rfl (by omega)) (clv rfl go128 (ac rfl an) (bare_stat b11 R12 lgs) ?_)
                    rintro r wq ⟨l, okb, u, rfl, hl, Hq⟩
                    have H7 : Hold w [] wq [rB g2 71 ([.int .i64 0, .int .i64 0, .string ⟨#[]⟩, .string ⟨#[]⟩, .int .i64 0, .slice none 0 0]), rR kStr 9 (.slice (some ⟨gv, 0, none⟩) fs.length fs.length) fs, rMS mp (parsersL pg2 pg3 pg4 pg5 pg6 pg7), rB pg2 2 ([.int .i64 2]), rB pg3 2 ([.int .i64 4]), rB pg4 2 ([.int .i64 5]), rB pg5 2 ([.int .i64 6]), rB pg6 2 ([.int .i64 7]), rB pg7 2 ([.int .i64 8]), rR i64 2 u l.ns] := Hold.news H6 Hq
                    clear H6
                    clear Hq
                    refine r (mv rfl) (r (xt rfl rfl) (r (xt rfl rfl) (ef (xal ti71) ?_)))
                    rintro _ w13 ⟨g9, e13, rfl, -, b13, c13⟩
                    have H8 : Hold w [] w13 [rB g2 71 ([.int .i64 0, .int .i64 0, .string ⟨#[]⟩, .string ⟨#[]⟩, .int .i64 0, .slice none 0 0]), rR kStr 9 (.slice (some ⟨gv, 0, none⟩) fs.length fs.length) fs, rMS mp (parsersL pg2 pg3 pg4 pg5 pg6 pg7), rB pg2 2 ([.int .i64 2]), rB pg3 2 ([.int .i64 4]), rB pg4 2 ([.int .i64 5]), rB pg5 2 ([.int .i64 6]), rB pg6 2 ([.int .i64 7]), rB pg7 2 ([.int .i64 8]), rR i64 2 u l.ns, rB g9 71 ([.int .i64 0, .int .i64 0, .string ⟨#[]⟩, .string ⟨#[]⟩, .int .i64 0, .slice none 0 0])] := Hold.newB H7 e13 b13 c13
                    clear H7
                    clear e13 b13 c13
                    have b14 : B w13 g9 71 ([.int .i64 0, .int .i64 0, .string ⟨#[]⟩, .string ⟨#[]⟩, .int .i64 0, .slice none 0 0]) := Hold.blk H8 10 rfl
                    obtain ⟨_, R16⟩ : ∃ F, Kd.R i64 w13 F u l.ns := Hold.row H8 9 rfl
                    refine ef0 (xst (vs := [.int .i64 l.kind, .int .i64 l.ck, .string l.nm, .string l.dt, .int .i64 l.sz, u]) ti71 rfl rfl rfl b14 rfl (Nat.le_of_ble_eq_true rfl) (oc rfl (oc rfl (oc rfl (oc rfl (oc rfl (oc (R16).oneCell on))))))) ?_
                    rintro w15 ⟨-, b15, c15⟩
                    have H9 : Hold w [] w15 [rB g2 71 ([.int .i64 0, .int .i64 0, .string ⟨#[]⟩, .string ⟨#[]⟩, .int .i64 0, .slice none 0 0]), rR kStr 9 (.slice (some ⟨gv, 0, none⟩) fs.length fs.length) fs, rMS mp (parsersL pg2 pg3 pg4 pg5 pg6 pg7), rB pg2 2 ([.int .i64 2]), rB pg3 2 ([.int .i64 4]), rB pg4 2 ([.int .i64 5]), rB pg5 2 ([.int .i64 6]), rB pg6 2 ([.int .i64 7]), rB pg7 2 ([.int .i64 8]), rR i64 2 u l.ns, rB g9 71 ([.int .i64 l.kind, .int .i64 l.ck, .string l.nm, .string l.dt, .int .i64 l.sz, u])] := Hold.setB H8 10 rfl b15 c15 rfl
                    clear H8
                    clear b15 c15
                    refine r (sa rfl) (re (sq (sq ?_)))
                    refine gen (fun ρ => ρ 2 = .pointer (some ⟨g2, 0, none⟩) ∧ ρ 9 = .pointer (some ⟨g9, 0, none⟩) ∧ ρ 10 = .bool okb ∧ True) ⟨z2, rfl, rfl, trivial⟩ ?_
                    rintro ρ ⟨z2, z9, z10, -⟩
                    refine rg (r (mv z10) (r (nt rfl) (re ?_)))
                    refine cd rfl (fun hok => ?_) (fun hok => ?_)
                    · have hL : lineV xs = badL := by rw [hL0, ← hl, if_neg (by simpa using hok)]
                      have b17 : B w15 g2 71 ([.int .i64 0, .int .i64 0, .string ⟨#[]⟩, .string ⟨#[]⟩, .int .i64 0, .slice none 0 0]) := Hold.blk H9 0 rfl
                      refine sq (rg (r (bd (r := [.int .i64 0, .int .i64 0, .string ⟨#[]⟩, .string ⟨#[]⟩, .int .i64 0, .slice none 0 0]) ti71 pl71 pn rfl) (ef0 (xst (vs := [.int .i64 0, .int .i64 0, .string ⟨#[]⟩, .string ⟨#[]⟩, .int .i64 0, .slice none 0 0]) ti71 z2 rfl rfl b17 rfl (Nat.le_of_ble_eq_true rfl) (one_all rfl)) ?_)))
                      rintro w18 ⟨-, b18, c18⟩
                      have H10 : Hold w [] w18 [rB g2 71 ([.int .i64 0, .int .i64 0, .string ⟨#[]⟩, .string ⟨#[]⟩, .int .i64 0, .slice none 0 0]), rR kStr 9 (.slice (some ⟨gv, 0, none⟩) fs.length fs.length) fs, rMS mp (parsersL pg2 pg3 pg4 pg5 pg6 pg7), rB pg2 2 ([.int .i64 2]), rB pg3 2 ([.int .i64 4]), rB pg4 2 ([.int .i64 5]), rB pg5 2 ([.int .i64 6]), rB pg6 2 ([.int .i64 7]), rB pg7 2 ([.int .i64 8]), rR i64 2 u l.ns, rB g9 71 ([.int .i64 l.kind, .int .i64 l.ck, .string l.nm, .string l.dt, .int .i64 l.sz, u])] := Hold.setB H9 0 rfl b18 c18 rfl
                      clear H9
                      clear b18 c18
                      refine re (rt ?_)
                      have H11 : Hold w [] w18 [rB g2 71 ([.int .i64 0, .int .i64 0, .string ⟨#[]⟩, .string ⟨#[]⟩, .int .i64 0, .slice none 0 0]), rR kStr 9 (.slice (some ⟨gv, 0, none⟩) fs.length fs.length) fs, rMS mp (parsersL pg2 pg3 pg4 pg5 pg6 pg7), rB pg2 2 ([.int .i64 2]), rB pg3 2 ([.int .i64 4]), rB pg4 2 ([.int .i64 5]), rB pg5 2 ([.int .i64 6]), rB pg6 2 ([.int .i64 7]), rB pg7 2 ([.int .i64 8]), rR i64 2 u l.ns, rB g9 71 ([.int .i64 l.kind, .int .i64 l.ck, .string l.nm, .string l.dt, .int .i64 l.sz, u]), rR i64 2 (.slice none 0 0) ([])] := Hold.nilrow i64 2 H10
                      clear H10
                      have b19 : B w18 g2 71 ([.int .i64 0, .int .i64 0, .string ⟨#[]⟩, .string ⟨#[]⟩, .int .i64 0, .slice none 0 0]) := Hold.blk H11 0 rfl
                      have H12 : Hold w [] w18 [rR i64 2 (.slice none 0 0) ([])] := (show Hold w [] w18 ([rR i64 2 (.slice none 0 0) ([])] ++ [rB g2 71 ([.int .i64 0, .int .i64 0, .string ⟨#[]⟩, .string ⟨#[]⟩, .int .i64 0, .slice none 0 0]), rR kStr 9 (.slice (some ⟨gv, 0, none⟩) fs.length fs.length) fs, rMS mp (parsersL pg2 pg3 pg4 pg5 pg6 pg7), rB pg2 2 ([.int .i64 2]), rB pg3 2 ([.int .i64 4]), rB pg4 2 ([.int .i64 5]), rB pg5 2 ([.int .i64 6]), rB pg6 2 ([.int .i64 7]), rB pg7 2 ([.int .i64 8]), rR i64 2 u l.ns, rB g9 71 ([.int .i64 l.kind, .int .i64 l.ck, .string l.nm, .string l.dt, .int .i64 l.sz, u])]) from Hold.re H11 [11, 0, 1, 2, 3, 4, 5, 6, 7, 8, 9, 10] (by kernel_rfl) (by rfl)).drop
                      clear H11
                      exact finc  (cs := [.int .i64 0, .int .i64 0, .string ⟨#[]⟩, .string ⟨#[]⟩, .int .i64 0, .slice none 0 0]) Tryd.results34 Tryd.underlying71 rfl ti71 z2 b19 rfl  ⟨_, by rw [hL], by rw [hL]; exact H12⟩
                    · have hL : lineV xs = l := by rw [hL0, ← hl, if_pos (by simpa using hok)]
                      have b17 : B w15 g9 71 ([.int .i64 l.kind, .int .i64 l.ck, .string l.nm, .string l.dt, .int .i64 l.sz, u]) := Hold.blk H9 10 rfl
                      have b18 : B w15 g2 71 ([.int .i64 0, .int .i64 0, .string ⟨#[]⟩, .string ⟨#[]⟩, .int .i64 0, .slice none 0 0]) := Hold.blk H9 0 rfl
                      obtain ⟨_, R20⟩ : ∃ F, Kd.R i64 w15 F u l.ns := Hold.row H9 9 rfl
                      refine sk (sq (rg (r (lab [.int .i64 l.kind, .int .i64 l.ck, .string l.nm, .string l.dt, .int .i64 l.sz, u] Tryd.underlying71 rfl ti71 z9 b17 rfl rfl) (ef0 (xst (vs := [.int .i64 l.kind, .int .i64 l.ck, .string l.nm, .string l.dt, .int .i64 l.sz, u]) ti71 z2 rfl rfl b18 rfl (Nat.le_of_ble_eq_true rfl) (oc rfl (oc rfl (oc rfl (oc rfl (oc rfl (oc (R20).oneCell on))))))) ?_))))
                      rintro w19 ⟨-, b19, c19⟩
                      have H10 : Hold w [] w19 [rB g2 71 ([.int .i64 l.kind, .int .i64 l.ck, .string l.nm, .string l.dt, .int .i64 l.sz, u]), rR kStr 9 (.slice (some ⟨gv, 0, none⟩) fs.length fs.length) fs, rMS mp (parsersL pg2 pg3 pg4 pg5 pg6 pg7), rB pg2 2 ([.int .i64 2]), rB pg3 2 ([.int .i64 4]), rB pg4 2 ([.int .i64 5]), rB pg5 2 ([.int .i64 6]), rB pg6 2 ([.int .i64 7]), rB pg7 2 ([.int .i64 8]), rR i64 2 u l.ns, rB g9 71 ([.int .i64 l.kind, .int .i64 l.ck, .string l.nm, .string l.dt, .int .i64 l.sz, u])] := Hold.setB H9 0 rfl b19 c19 rfl
                      clear H9
                      clear b19 c19
                      refine re (rt ?_)
                      have b21 : B w19 g2 71 ([.int .i64 l.kind, .int .i64 l.ck, .string l.nm, .string l.dt, .int .i64 l.sz, u]) := Hold.blk H10 0 rfl
                      have H11 : Hold w [] w19 [rR i64 2 u l.ns] := (show Hold w [] w19 ([rR i64 2 u l.ns] ++ [rB g2 71 ([.int .i64 l.kind, .int .i64 l.ck, .string l.nm, .string l.dt, .int .i64 l.sz, u]), rR kStr 9 (.slice (some ⟨gv, 0, none⟩) fs.length fs.length) fs, rMS mp (parsersL pg2 pg3 pg4 pg5 pg6 pg7), rB pg2 2 ([.int .i64 2]), rB pg3 2 ([.int .i64 4]), rB pg4 2 ([.int .i64 5]), rB pg5 2 ([.int .i64 6]), rB pg6 2 ([.int .i64 7]), rB pg7 2 ([.int .i64 8]), rB g9 71 ([.int .i64 l.kind, .int .i64 l.ck, .string l.nm, .string l.dt, .int .i64 l.sz, u])]) from Hold.re H10 [9, 0, 1, 2, 3, 4, 5, 6, 7, 8, 10] (by kernel_rfl) (by rfl)).drop
                      clear H10
                      exact finc  (cs := [.int .i64 l.kind, .int .i64 l.ck, .string l.nm, .string l.dt, .int .i64 l.sz, u]) Tryd.results34 Tryd.underlying71 rfl ti71 z2 b21 rfl  ⟨u, by rw [hL], by rw [hL]; exact H11⟩
                  · have hn_stat := hk
                    by_cases hk : f0 = kFill
                    · refine sq ?_
                      refine rde mixed ?_
                      intro w4 c4
                      have H4 : Hold w [] w4 [rB g2 71 ([.int .i64 0, .int .i64 0, .string ⟨#[]⟩, .string ⟨#[]⟩, .int .i64 0, .slice none 0 0]), rR kStr 9 (.slice (some ⟨gv, 0, none⟩) fs.length fs.length) fs] := Hold.t H3 c4
                      clear H3
                      clear c4
                      have H5d0 : Hold w4 [] w4 [] := Hold.start w4
                      refine ⟨fun w' => Ch [] w4 w', Ch.refl _ _, ?_⟩
                      obtain ⟨_, R6⟩ : ∃ F, Kd.R kStr w4 F (.slice (some ⟨gv, 0, none⟩) fs.length fs.length) fs := Hold.row H4 1 rfl
                      refine edt 1 rfl (by kernel_rfl) (fun w' hS => mv y3) ?_
                      obtain ⟨c48_7, ad48_7, k48_7, e48_7, p48_7⟩ := Kd.R.place R6 0 ((by omega))
                      refine edt 2 rfl (by kernel_rfl) (fun w' hS => ix (j := 0) Tryd.underlying54 ti9 e48_7 rfl ((by omega))) (edt 3 rfl (by kernel_rfl) (fun w' hS => Rn.cast (v' := .string (⟨#[102, 105, 108, 108]⟩ : ByteArray)) (ld Tryd.underlying9 rfl rfl (Ch.cell hS p48_7.cell)) (congrArg Value.string ((gd _).trans (hf0.symm.trans hk)))) (ed1 0 (by kernel_rfl) <| euc rfl go79 an (parsers) ?_))
                      rintro r wp ⟨mp, pg2, pg3, pg4, pg5, pg6, pg7, rfl, Hp⟩
                      have H5d : Hold w4 [] wp [rMS mp (parsersL pg2 pg3 pg4 pg5 pg6 pg7), rB pg2 2 ([.int .i64 2]), rB pg3 2 ([.int .i64 4]), rB pg4 2 ([.int .i64 5]), rB pg5 2 ([.int .i64 6]), rB pg6 2 ([.int .i64 7]), rB pg7 2 ([.int .i64 8])] := Hold.news H5d0 Hp
                      clear H5d0
                      clear Hp
                      refine ⟨.inr (Hold.ch H5d), ?_⟩
                      refine ed1 4 (by kernel_rfl) <| eur rfl (Rn.cast (v' := .tuple #[.func (.func 107) #[] #[], .bool true]) (lkps Tryd.underlying121 Tryd.underlying9 ti119 rfl rfl (Hold.mps (g := mp) H5d 0 rfl)) (by simp [lookS, parsersL])) (.inr (Hold.ch H5d)) ?_
                      refine edt 5 rfl (by kernel_rfl) (fun w' hS => mv rfl) (edt 6 rfl (by kernel_rfl) (fun w' hS => xt rfl rfl) (edt 7 rfl (by kernel_rfl) (fun w' hS => xt rfl rfl) (edt 8 rfl (by kernel_rfl) (fun w' hS => sa rfl) ?_)))
                      have H6 : Hold w [] wp [rB g2 71 ([.int .i64 0, .int .i64 0, .string ⟨#[]⟩, .string ⟨#[]⟩, .int .i64 0, .slice none 0 0]), rR kStr 9 (.slice (some ⟨gv, 0, none⟩) fs.length fs.length) fs, rMS mp (parsersL pg2 pg3 pg4 pg5 pg6 pg7), rB pg2 2 ([.int .i64 2]), rB pg3 2 ([.int .i64 4]), rB pg4 2 ([.int .i64 5]), rB pg5 2 ([.int .i64 6]), rB pg6 2 ([.int .i64 7]), rB pg7 2 ([.int .i64 8])] := Hold.news H4 H5d
                      clear H5d H4
                      refine ed1 9 (by kernel_rfl) <| eur rfl (sa rfl) (.inl (by kernel_rfl)) ?_
                      refine edd (by kernel_rfl) ?_
                      refine sq (sq ?_)
                      refine gen (fun ρ => ρ 2 = .pointer (some ⟨g2, 0, none⟩) ∧ ρ 3 = .slice (some ⟨gv, 0, none⟩) fs.length fs.length ∧ ρ 7 = .func (.func 107) #[] #[] ∧ ρ 8 = .bool true ∧ True) ⟨y2, y3, rfl, rfl, trivial⟩ ?_
                      rintro ρ ⟨z2, z3, z7, z8, -⟩
                      obtain ⟨_, R9⟩ : ∃ F, Kd.R kStr wp F (.slice (some ⟨gv, 0, none⟩) fs.length fs.length) fs := Hold.row H6 1 rfl
                      refine rg (r (mv z8) (r (nt rfl) (re (cf rfl (sk (sq (rg (r (mv z7) (r (mv z3) ?_)))))))))
                      have hL0 : lineV xs = lineF (kFill :: fs.drop 1) := hk ▸ hV0
                      obtain ⟨F11, us11, R11⟩ := Kd.R.sl R9 (1) (fs.length) (by first | omega | (simp; omega)) (by first | omega | (simp; omega))
                      have e11 : (fs.take fs.length).drop 1 = fs.drop 1 := by first | (rw [List.take_length, List.drop_drop]; done) | (rw [List.drop_take]; done) | (simp; done) | (rw [List.drop_take]; congr 1; omega) | (rw [List.take_length, List.drop_drop]; congr 1; omega)
                      rw [e11] at R11
                      refine r (slrl (1) Tryd.underlying54 ti9 R9 rfl rfl (by omega)) (clv rfl go107 (ac rfl an) (parseFill R11 lgs) ?_)
                      rintro r wq ⟨l, okb, u, rfl, hl, Hq⟩
                      have H7 : Hold w [] wq [rB g2 71 ([.int .i64 0, .int .i64 0, .string ⟨#[]⟩, .string ⟨#[]⟩, .int .i64 0, .slice none 0 0]), rR kStr 9 (.slice (some ⟨gv, 0, none⟩) fs.length fs.length) fs, rMS mp (parsersL pg2 pg3 pg4 pg5 pg6 pg7), rB pg2 2 ([.int .i64 2]), rB pg3 2 ([.int .i64 4]), rB pg4 2 ([.int .i64 5]), rB pg5 2 ([.int .i64 6]), rB pg6 2 ([.int .i64 7]), rB pg7 2 ([.int .i64 8]), rR i64 2 u l.ns] := Hold.news H6 Hq
                      clear H6
                      clear Hq
                      refine r (mv rfl) (r (xt rfl rfl) (r (xt rfl rfl) (ef (xal ti71) ?_)))
                      rintro _ w12 ⟨g9, e12, rfl, -, b12, c12⟩
                      have H8 : Hold w [] w12 [rB g2 71 ([.int .i64 0, .int .i64 0, .string ⟨#[]⟩, .string ⟨#[]⟩, .int .i64 0, .slice none 0 0]), rR kStr 9 (.slice (some ⟨gv, 0, none⟩) fs.length fs.length) fs, rMS mp (parsersL pg2 pg3 pg4 pg5 pg6 pg7), rB pg2 2 ([.int .i64 2]), rB pg3 2 ([.int .i64 4]), rB pg4 2 ([.int .i64 5]), rB pg5 2 ([.int .i64 6]), rB pg6 2 ([.int .i64 7]), rB pg7 2 ([.int .i64 8]), rR i64 2 u l.ns, rB g9 71 ([.int .i64 0, .int .i64 0, .string ⟨#[]⟩, .string ⟨#[]⟩, .int .i64 0, .slice none 0 0])] := Hold.newB H7 e12 b12 c12
                      clear H7
                      clear e12 b12 c12
                      have b13 : B w12 g9 71 ([.int .i64 0, .int .i64 0, .string ⟨#[]⟩, .string ⟨#[]⟩, .int .i64 0, .slice none 0 0]) := Hold.blk H8 10 rfl
                      obtain ⟨_, R15⟩ : ∃ F, Kd.R i64 w12 F u l.ns := Hold.row H8 9 rfl
                      refine ef0 (xst (vs := [.int .i64 l.kind, .int .i64 l.ck, .string l.nm, .string l.dt, .int .i64 l.sz, u]) ti71 rfl rfl rfl b13 rfl (Nat.le_of_ble_eq_true rfl) (oc rfl (oc rfl (oc rfl (oc rfl (oc rfl (oc (R15).oneCell on))))))) ?_
                      rintro w14 ⟨-, b14, c14⟩
                      have H9 : Hold w [] w14 [rB g2 71 ([.int .i64 0, .int .i64 0, .string ⟨#[]⟩, .string ⟨#[]⟩, .int .i64 0, .slice none 0 0]), rR kStr 9 (.slice (some ⟨gv, 0, none⟩) fs.length fs.length) fs, rMS mp (parsersL pg2 pg3 pg4 pg5 pg6 pg7), rB pg2 2 ([.int .i64 2]), rB pg3 2 ([.int .i64 4]), rB pg4 2 ([.int .i64 5]), rB pg5 2 ([.int .i64 6]), rB pg6 2 ([.int .i64 7]), rB pg7 2 ([.int .i64 8]), rR i64 2 u l.ns, rB g9 71 ([.int .i64 l.kind, .int .i64 l.ck, .string l.nm, .string l.dt, .int .i64 l.sz, u])] := Hold.setB H8 10 rfl b14 c14 rfl
                      clear H8
                      clear b14 c14
                      refine r (sa rfl) (re (sq (sq ?_)))
                      refine gen (fun ρ => ρ 2 = .pointer (some ⟨g2, 0, none⟩) ∧ ρ 9 = .pointer (some ⟨g9, 0, none⟩) ∧ ρ 10 = .bool okb ∧ True) ⟨z2, rfl, rfl, trivial⟩ ?_
                      rintro ρ ⟨z2, z9, z10, -⟩
                      refine rg (r (mv z10) (r (nt rfl) (re ?_)))
                      refine cd rfl (fun hok => ?_) (fun hok => ?_)
                      · have hL : lineV xs = badL := by rw [hL0, ← hl, if_neg (by simpa using hok)]
                        have b16 : B w14 g2 71 ([.int .i64 0, .int .i64 0, .string ⟨#[]⟩, .string ⟨#[]⟩, .int .i64 0, .slice none 0 0]) := Hold.blk H9 0 rfl
                        refine sq (rg (r (bd (r := [.int .i64 0, .int .i64 0, .string ⟨#[]⟩, .string ⟨#[]⟩, .int .i64 0, .slice none 0 0]) ti71 pl71 pn rfl) (ef0 (xst (vs := [.int .i64 0, .int .i64 0, .string ⟨#[]⟩, .string ⟨#[]⟩, .int .i64 0, .slice none 0 0]) ti71 z2 rfl rfl b16 rfl (Nat.le_of_ble_eq_true rfl) (one_all rfl)) ?_)))
                        rintro w17 ⟨-, b17, c17⟩
                        have H10 : Hold w [] w17 [rB g2 71 ([.int .i64 0, .int .i64 0, .string ⟨#[]⟩, .string ⟨#[]⟩, .int .i64 0, .slice none 0 0]), rR kStr 9 (.slice (some ⟨gv, 0, none⟩) fs.length fs.length) fs, rMS mp (parsersL pg2 pg3 pg4 pg5 pg6 pg7), rB pg2 2 ([.int .i64 2]), rB pg3 2 ([.int .i64 4]), rB pg4 2 ([.int .i64 5]), rB pg5 2 ([.int .i64 6]), rB pg6 2 ([.int .i64 7]), rB pg7 2 ([.int .i64 8]), rR i64 2 u l.ns, rB g9 71 ([.int .i64 l.kind, .int .i64 l.ck, .string l.nm, .string l.dt, .int .i64 l.sz, u])] := Hold.setB H9 0 rfl b17 c17 rfl
                        clear H9
                        clear b17 c17
                        refine re (rt ?_)
                        have H11 : Hold w [] w17 [rB g2 71 ([.int .i64 0, .int .i64 0, .string ⟨#[]⟩, .string ⟨#[]⟩, .int .i64 0, .slice none 0 0]), rR kStr 9 (.slice (some ⟨gv, 0, none⟩) fs.length fs.length) fs, rMS mp (parsersL pg2 pg3 pg4 pg5 pg6 pg7), rB pg2 2 ([.int .i64 2]), rB pg3 2 ([.int .i64 4]), rB pg4 2 ([.int .i64 5]), rB pg5 2 ([.int .i64 6]), rB pg6 2 ([.int .i64 7]), rB pg7 2 ([.int .i64 8]), rR i64 2 u l.ns, rB g9 71 ([.int .i64 l.kind, .int .i64 l.ck, .string l.nm, .string l.dt, .int .i64 l.sz, u]), rR i64 2 (.slice none 0 0) ([])] := Hold.nilrow i64 2 H10
                        clear H10
                        have b18 : B w17 g2 71 ([.int .i64 0, .int .i64 0, .string ⟨#[]⟩, .string ⟨#[]⟩, .int .i64 0, .slice none 0 0]) := Hold.blk H11 0 rfl
                        have H12 : Hold w [] w17 [rR i64 2 (.slice none 0 0) ([])] := (show Hold w [] w17 ([rR i64 2 (.slice none 0 0) ([])] ++ [rB g2 71 ([.int .i64 0, .int .i64 0, .string ⟨#[]⟩, .string ⟨#[]⟩, .int .i64 0, .slice none 0 0]), rR kStr 9 (.slice (some ⟨gv, 0, none⟩) fs.length fs.length) fs, rMS mp (parsersL pg2 pg3 pg4 pg5 pg6 pg7), rB pg2 2 ([.int .i64 2]), rB pg3 2 ([.int .i64 4]), rB pg4 2 ([.int .i64 5]), rB pg5 2 ([.int .i64 6]), rB pg6 2 ([.int .i64 7]), rB pg7 2 ([.int .i64 8]), rR i64 2 u l.ns, rB g9 71 ([.int .i64 l.kind, .int .i64 l.ck, .string l.nm, .string l.dt, .int .i64 l.sz, u])]) from Hold.re H11 [11, 0, 1, 2, 3, 4, 5, 6, 7, 8, 9, 10] (by kernel_rfl) (by rfl)).drop
                        clear H11
                        exact finc  (cs := [.int .i64 0, .int .i64 0, .string ⟨#[]⟩, .string ⟨#[]⟩, .int .i64 0, .slice none 0 0]) Tryd.results34 Tryd.underlying71 rfl ti71 z2 b18 rfl  ⟨_, by rw [hL], by rw [hL]; exact H12⟩
                      · have hL : lineV xs = l := by rw [hL0, ← hl, if_pos (by simpa using hok)]
                        have b16 : B w14 g9 71 ([.int .i64 l.kind, .int .i64 l.ck, .string l.nm, .string l.dt, .int .i64 l.sz, u]) := Hold.blk H9 10 rfl
                        have b17 : B w14 g2 71 ([.int .i64 0, .int .i64 0, .string ⟨#[]⟩, .string ⟨#[]⟩, .int .i64 0, .slice none 0 0]) := Hold.blk H9 0 rfl
                        obtain ⟨_, R19⟩ : ∃ F, Kd.R i64 w14 F u l.ns := Hold.row H9 9 rfl
                        refine sk (sq (rg (r (lab [.int .i64 l.kind, .int .i64 l.ck, .string l.nm, .string l.dt, .int .i64 l.sz, u] Tryd.underlying71 rfl ti71 z9 b16 rfl rfl) (ef0 (xst (vs := [.int .i64 l.kind, .int .i64 l.ck, .string l.nm, .string l.dt, .int .i64 l.sz, u]) ti71 z2 rfl rfl b17 rfl (Nat.le_of_ble_eq_true rfl) (oc rfl (oc rfl (oc rfl (oc rfl (oc rfl (oc (R19).oneCell on))))))) ?_))))
                        rintro w18 ⟨-, b18, c18⟩
                        have H10 : Hold w [] w18 [rB g2 71 ([.int .i64 l.kind, .int .i64 l.ck, .string l.nm, .string l.dt, .int .i64 l.sz, u]), rR kStr 9 (.slice (some ⟨gv, 0, none⟩) fs.length fs.length) fs, rMS mp (parsersL pg2 pg3 pg4 pg5 pg6 pg7), rB pg2 2 ([.int .i64 2]), rB pg3 2 ([.int .i64 4]), rB pg4 2 ([.int .i64 5]), rB pg5 2 ([.int .i64 6]), rB pg6 2 ([.int .i64 7]), rB pg7 2 ([.int .i64 8]), rR i64 2 u l.ns, rB g9 71 ([.int .i64 l.kind, .int .i64 l.ck, .string l.nm, .string l.dt, .int .i64 l.sz, u])] := Hold.setB H9 0 rfl b18 c18 rfl
                        clear H9
                        clear b18 c18
                        refine re (rt ?_)
                        have b20 : B w18 g2 71 ([.int .i64 l.kind, .int .i64 l.ck, .string l.nm, .string l.dt, .int .i64 l.sz, u]) := Hold.blk H10 0 rfl
                        have H11 : Hold w [] w18 [rR i64 2 u l.ns] := (show Hold w [] w18 ([rR i64 2 u l.ns] ++ [rB g2 71 ([.int .i64 l.kind, .int .i64 l.ck, .string l.nm, .string l.dt, .int .i64 l.sz, u]), rR kStr 9 (.slice (some ⟨gv, 0, none⟩) fs.length fs.length) fs, rMS mp (parsersL pg2 pg3 pg4 pg5 pg6 pg7), rB pg2 2 ([.int .i64 2]), rB pg3 2 ([.int .i64 4]), rB pg4 2 ([.int .i64 5]), rB pg5 2 ([.int .i64 6]), rB pg6 2 ([.int .i64 7]), rB pg7 2 ([.int .i64 8]), rB g9 71 ([.int .i64 l.kind, .int .i64 l.ck, .string l.nm, .string l.dt, .int .i64 l.sz, u])]) from Hold.re H10 [9, 0, 1, 2, 3, 4, 5, 6, 7, 8, 10] (by kernel_rfl) (by rfl)).drop
                        clear H10
                        exact finc  (cs := [.int .i64 l.kind, .int .i64 l.ck, .string l.nm, .string l.dt, .int .i64 l.sz, u]) Tryd.results34 Tryd.underlying71 rfl ti71 z2 b20 rfl  ⟨u, by rw [hL], by rw [hL]; exact H11⟩
                    · have hn_fill := hk
                      by_cases hk : f0 = kTrunc
                      · refine sq ?_
                        refine rde mixed ?_
                        intro w4 c4
                        have H4 : Hold w [] w4 [rB g2 71 ([.int .i64 0, .int .i64 0, .string ⟨#[]⟩, .string ⟨#[]⟩, .int .i64 0, .slice none 0 0]), rR kStr 9 (.slice (some ⟨gv, 0, none⟩) fs.length fs.length) fs] := Hold.t H3 c4
                        clear H3
                        clear c4
                        have H5d0 : Hold w4 [] w4 [] := Hold.start w4
                        refine ⟨fun w' => Ch [] w4 w', Ch.refl _ _, ?_⟩
                        obtain ⟨_, R6⟩ : ∃ F, Kd.R kStr w4 F (.slice (some ⟨gv, 0, none⟩) fs.length fs.length) fs := Hold.row H4 1 rfl
                        refine edt 1 rfl (by kernel_rfl) (fun w' hS => mv y3) ?_
                        obtain ⟨c48_7, ad48_7, k48_7, e48_7, p48_7⟩ := Kd.R.place R6 0 ((by omega))
                        refine edt 2 rfl (by kernel_rfl) (fun w' hS => ix (j := 0) Tryd.underlying54 ti9 e48_7 rfl ((by omega))) (edt 3 rfl (by kernel_rfl) (fun w' hS => Rn.cast (v' := .string (⟨#[116, 114, 117, 110, 99]⟩ : ByteArray)) (ld Tryd.underlying9 rfl rfl (Ch.cell hS p48_7.cell)) (congrArg Value.string ((gd _).trans (hf0.symm.trans hk)))) (ed1 0 (by kernel_rfl) <| euc rfl go79 an (parsers) ?_))
                        rintro r wp ⟨mp, pg2, pg3, pg4, pg5, pg6, pg7, rfl, Hp⟩
                        have H5d : Hold w4 [] wp [rMS mp (parsersL pg2 pg3 pg4 pg5 pg6 pg7), rB pg2 2 ([.int .i64 2]), rB pg3 2 ([.int .i64 4]), rB pg4 2 ([.int .i64 5]), rB pg5 2 ([.int .i64 6]), rB pg6 2 ([.int .i64 7]), rB pg7 2 ([.int .i64 8])] := Hold.news H5d0 Hp
                        clear H5d0
                        clear Hp
                        refine ⟨.inr (Hold.ch H5d), ?_⟩
                        refine ed1 4 (by kernel_rfl) <| eur rfl (Rn.cast (v' := .tuple #[.func (.func 109) #[] #[], .bool true]) (lkps Tryd.underlying121 Tryd.underlying9 ti119 rfl rfl (Hold.mps (g := mp) H5d 0 rfl)) (by simp [lookS, parsersL])) (.inr (Hold.ch H5d)) ?_
                        refine edt 5 rfl (by kernel_rfl) (fun w' hS => mv rfl) (edt 6 rfl (by kernel_rfl) (fun w' hS => xt rfl rfl) (edt 7 rfl (by kernel_rfl) (fun w' hS => xt rfl rfl) (edt 8 rfl (by kernel_rfl) (fun w' hS => sa rfl) ?_)))
                        have H6 : Hold w [] wp [rB g2 71 ([.int .i64 0, .int .i64 0, .string ⟨#[]⟩, .string ⟨#[]⟩, .int .i64 0, .slice none 0 0]), rR kStr 9 (.slice (some ⟨gv, 0, none⟩) fs.length fs.length) fs, rMS mp (parsersL pg2 pg3 pg4 pg5 pg6 pg7), rB pg2 2 ([.int .i64 2]), rB pg3 2 ([.int .i64 4]), rB pg4 2 ([.int .i64 5]), rB pg5 2 ([.int .i64 6]), rB pg6 2 ([.int .i64 7]), rB pg7 2 ([.int .i64 8])] := Hold.news H4 H5d
                        clear H5d H4
                        refine ed1 9 (by kernel_rfl) <| eur rfl (sa rfl) (.inl (by kernel_rfl)) ?_
                        refine edd (by kernel_rfl) ?_
                        refine sq (sq ?_)
                        refine gen (fun ρ => ρ 2 = .pointer (some ⟨g2, 0, none⟩) ∧ ρ 3 = .slice (some ⟨gv, 0, none⟩) fs.length fs.length ∧ ρ 7 = .func (.func 109) #[] #[] ∧ ρ 8 = .bool true ∧ True) ⟨y2, y3, rfl, rfl, trivial⟩ ?_
                        rintro ρ ⟨z2, z3, z7, z8, -⟩
                        obtain ⟨_, R9⟩ : ∃ F, Kd.R kStr wp F (.slice (some ⟨gv, 0, none⟩) fs.length fs.length) fs := Hold.row H6 1 rfl
                        refine rg (r (mv z8) (r (nt rfl) (re (cf rfl (sk (sq (rg (r (mv z7) (r (mv z3) ?_)))))))))
                        have hL0 : lineV xs = lineF (kTrunc :: fs.drop 1) := hk ▸ hV0
                        obtain ⟨F11, us11, R11⟩ := Kd.R.sl R9 (1) (fs.length) (by first | omega | (simp; omega)) (by first | omega | (simp; omega))
                        have e11 : (fs.take fs.length).drop 1 = fs.drop 1 := by first | (rw [List.take_length, List.drop_drop]; done) | (rw [List.drop_take]; done) | (simp; done) | (rw [List.drop_take]; congr 1; omega) | (rw [List.take_length, List.drop_drop]; congr 1; omega)
                        rw [e11] at R11
                        refine r (slrl (1) Tryd.underlying54 ti9 R9 rfl rfl (by omega)) (clv rfl go109 (ac rfl an) (parseTrunc R11 lgs) ?_)
                        rintro r wq ⟨l, okb, u, rfl, hl, Hq⟩
                        have H7 : Hold w [] wq [rB g2 71 ([.int .i64 0, .int .i64 0, .string ⟨#[]⟩, .string ⟨#[]⟩, .int .i64 0, .slice none 0 0]), rR kStr 9 (.slice (some ⟨gv, 0, none⟩) fs.length fs.length) fs, rMS mp (parsersL pg2 pg3 pg4 pg5 pg6 pg7), rB pg2 2 ([.int .i64 2]), rB pg3 2 ([.int .i64 4]), rB pg4 2 ([.int .i64 5]), rB pg5 2 ([.int .i64 6]), rB pg6 2 ([.int .i64 7]), rB pg7 2 ([.int .i64 8]), rR i64 2 u l.ns] := Hold.news H6 Hq
                        clear H6
                        clear Hq
                        refine r (mv rfl) (r (xt rfl rfl) (r (xt rfl rfl) (ef (xal ti71) ?_)))
                        rintro _ w12 ⟨g9, e12, rfl, -, b12, c12⟩
                        have H8 : Hold w [] w12 [rB g2 71 ([.int .i64 0, .int .i64 0, .string ⟨#[]⟩, .string ⟨#[]⟩, .int .i64 0, .slice none 0 0]), rR kStr 9 (.slice (some ⟨gv, 0, none⟩) fs.length fs.length) fs, rMS mp (parsersL pg2 pg3 pg4 pg5 pg6 pg7), rB pg2 2 ([.int .i64 2]), rB pg3 2 ([.int .i64 4]), rB pg4 2 ([.int .i64 5]), rB pg5 2 ([.int .i64 6]), rB pg6 2 ([.int .i64 7]), rB pg7 2 ([.int .i64 8]), rR i64 2 u l.ns, rB g9 71 ([.int .i64 0, .int .i64 0, .string ⟨#[]⟩, .string ⟨#[]⟩, .int .i64 0, .slice none 0 0])] := Hold.newB H7 e12 b12 c12
                        clear H7
                        clear e12 b12 c12
                        have b13 : B w12 g9 71 ([.int .i64 0, .int .i64 0, .string ⟨#[]⟩, .string ⟨#[]⟩, .int .i64 0, .slice none 0 0]) := Hold.blk H8 10 rfl
                        obtain ⟨_, R15⟩ : ∃ F, Kd.R i64 w12 F u l.ns := Hold.row H8 9 rfl
                        refine ef0 (xst (vs := [.int .i64 l.kind, .int .i64 l.ck, .string l.nm, .string l.dt, .int .i64 l.sz, u]) ti71 rfl rfl rfl b13 rfl (Nat.le_of_ble_eq_true rfl) (oc rfl (oc rfl (oc rfl (oc rfl (oc rfl (oc (R15).oneCell on))))))) ?_
                        rintro w14 ⟨-, b14, c14⟩
                        have H9 : Hold w [] w14 [rB g2 71 ([.int .i64 0, .int .i64 0, .string ⟨#[]⟩, .string ⟨#[]⟩, .int .i64 0, .slice none 0 0]), rR kStr 9 (.slice (some ⟨gv, 0, none⟩) fs.length fs.length) fs, rMS mp (parsersL pg2 pg3 pg4 pg5 pg6 pg7), rB pg2 2 ([.int .i64 2]), rB pg3 2 ([.int .i64 4]), rB pg4 2 ([.int .i64 5]), rB pg5 2 ([.int .i64 6]), rB pg6 2 ([.int .i64 7]), rB pg7 2 ([.int .i64 8]), rR i64 2 u l.ns, rB g9 71 ([.int .i64 l.kind, .int .i64 l.ck, .string l.nm, .string l.dt, .int .i64 l.sz, u])] := Hold.setB H8 10 rfl b14 c14 rfl
                        clear H8
                        clear b14 c14
                        refine r (sa rfl) (re (sq (sq ?_)))
                        refine gen (fun ρ => ρ 2 = .pointer (some ⟨g2, 0, none⟩) ∧ ρ 9 = .pointer (some ⟨g9, 0, none⟩) ∧ ρ 10 = .bool okb ∧ True) ⟨z2, rfl, rfl, trivial⟩ ?_
                        rintro ρ ⟨z2, z9, z10, -⟩
                        refine rg (r (mv z10) (r (nt rfl) (re ?_)))
                        refine cd rfl (fun hok => ?_) (fun hok => ?_)
                        · have hL : lineV xs = badL := by rw [hL0, ← hl, if_neg (by simpa using hok)]
                          have b16 : B w14 g2 71 ([.int .i64 0, .int .i64 0, .string ⟨#[]⟩, .string ⟨#[]⟩, .int .i64 0, .slice none 0 0]) := Hold.blk H9 0 rfl
                          refine sq (rg (r (bd (r := [.int .i64 0, .int .i64 0, .string ⟨#[]⟩, .string ⟨#[]⟩, .int .i64 0, .slice none 0 0]) ti71 pl71 pn rfl) (ef0 (xst (vs := [.int .i64 0, .int .i64 0, .string ⟨#[]⟩, .string ⟨#[]⟩, .int .i64 0, .slice none 0 0]) ti71 z2 rfl rfl b16 rfl (Nat.le_of_ble_eq_true rfl) (one_all rfl)) ?_)))
                          rintro w17 ⟨-, b17, c17⟩
                          have H10 : Hold w [] w17 [rB g2 71 ([.int .i64 0, .int .i64 0, .string ⟨#[]⟩, .string ⟨#[]⟩, .int .i64 0, .slice none 0 0]), rR kStr 9 (.slice (some ⟨gv, 0, none⟩) fs.length fs.length) fs, rMS mp (parsersL pg2 pg3 pg4 pg5 pg6 pg7), rB pg2 2 ([.int .i64 2]), rB pg3 2 ([.int .i64 4]), rB pg4 2 ([.int .i64 5]), rB pg5 2 ([.int .i64 6]), rB pg6 2 ([.int .i64 7]), rB pg7 2 ([.int .i64 8]), rR i64 2 u l.ns, rB g9 71 ([.int .i64 l.kind, .int .i64 l.ck, .string l.nm, .string l.dt, .int .i64 l.sz, u])] := Hold.setB H9 0 rfl b17 c17 rfl
                          clear H9
                          clear b17 c17
                          refine re (rt ?_)
                          have H11 : Hold w [] w17 [rB g2 71 ([.int .i64 0, .int .i64 0, .string ⟨#[]⟩, .string ⟨#[]⟩, .int .i64 0, .slice none 0 0]), rR kStr 9 (.slice (some ⟨gv, 0, none⟩) fs.length fs.length) fs, rMS mp (parsersL pg2 pg3 pg4 pg5 pg6 pg7), rB pg2 2 ([.int .i64 2]), rB pg3 2 ([.int .i64 4]), rB pg4 2 ([.int .i64 5]), rB pg5 2 ([.int .i64 6]), rB pg6 2 ([.int .i64 7]), rB pg7 2 ([.int .i64 8]), rR i64 2 u l.ns, rB g9 71 ([.int .i64 l.kind, .int .i64 l.ck, .string l.nm, .string l.dt, .int .i64 l.sz, u]), rR i64 2 (.slice none 0 0) ([])] := Hold.nilrow i64 2 H10
                          clear H10
                          have b18 : B w17 g2 71 ([.int .i64 0, .int .i64 0, .string ⟨#[]⟩, .string ⟨#[]⟩, .int .i64 0, .slice none 0 0]) := Hold.blk H11 0 rfl
                          have H12 : Hold w [] w17 [rR i64 2 (.slice none 0 0) ([])] := (show Hold w [] w17 ([rR i64 2 (.slice none 0 0) ([])] ++ [rB g2 71 ([.int .i64 0, .int .i64 0, .string ⟨#[]⟩, .string ⟨#[]⟩, .int .i64 0, .slice none 0 0]), rR kStr 9 (.slice (some ⟨gv, 0, none⟩) fs.length fs.length) fs, rMS mp (parsersL pg2 pg3 pg4 pg5 pg6 pg7), rB pg2 2 ([.int .i64 2]), rB pg3 2 ([.int .i64 4]), rB pg4 2 ([.int .i64 5]), rB pg5 2 ([.int .i64 6]), rB pg6 2 ([.int .i64 7]), rB pg7 2 ([.int .i64 8]), rR i64 2 u l.ns, rB g9 71 ([.int .i64 l.kind, .int .i64 l.ck, .string l.nm, .string l.dt, .int .i64 l.sz, u])]) from Hold.re H11 [11, 0, 1, 2, 3, 4, 5, 6, 7, 8, 9, 10] (by kernel_rfl) (by rfl)).drop
                          clear H11
                          exact finc  (cs := [.int .i64 0, .int .i64 0, .string ⟨#[]⟩, .string ⟨#[]⟩, .int .i64 0, .slice none 0 0]) Tryd.results34 Tryd.underlying71 rfl ti71 z2 b18 rfl  ⟨_, by rw [hL], by rw [hL]; exact H12⟩
                        · have hL : lineV xs = l := by rw [hL0, ← hl, if_pos (by simpa using hok)]
                          have b16 : B w14 g9 71 ([.int .i64 l.kind, .int .i64 l.ck, .string l.nm, .string l.dt, .int .i64 l.sz, u]) := Hold.blk H9 10 rfl
                          have b17 : B w14 g2 71 ([.int .i64 0, .int .i64 0, .string ⟨#[]⟩, .string ⟨#[]⟩, .int .i64 0, .slice none 0 0]) := Hold.blk H9 0 rfl
                          obtain ⟨_, R19⟩ : ∃ F, Kd.R i64 w14 F u l.ns := Hold.row H9 9 rfl
                          refine sk (sq (rg (r (lab [.int .i64 l.kind, .int .i64 l.ck, .string l.nm, .string l.dt, .int .i64 l.sz, u] Tryd.underlying71 rfl ti71 z9 b16 rfl rfl) (ef0 (xst (vs := [.int .i64 l.kind, .int .i64 l.ck, .string l.nm, .string l.dt, .int .i64 l.sz, u]) ti71 z2 rfl rfl b17 rfl (Nat.le_of_ble_eq_true rfl) (oc rfl (oc rfl (oc rfl (oc rfl (oc rfl (oc (R19).oneCell on))))))) ?_))))
                          rintro w18 ⟨-, b18, c18⟩
                          have H10 : Hold w [] w18 [rB g2 71 ([.int .i64 l.kind, .int .i64 l.ck, .string l.nm, .string l.dt, .int .i64 l.sz, u]), rR kStr 9 (.slice (some ⟨gv, 0, none⟩) fs.length fs.length) fs, rMS mp (parsersL pg2 pg3 pg4 pg5 pg6 pg7), rB pg2 2 ([.int .i64 2]), rB pg3 2 ([.int .i64 4]), rB pg4 2 ([.int .i64 5]), rB pg5 2 ([.int .i64 6]), rB pg6 2 ([.int .i64 7]), rB pg7 2 ([.int .i64 8]), rR i64 2 u l.ns, rB g9 71 ([.int .i64 l.kind, .int .i64 l.ck, .string l.nm, .string l.dt, .int .i64 l.sz, u])] := Hold.setB H9 0 rfl b18 c18 rfl
                          clear H9
                          clear b18 c18
                          refine re (rt ?_)
                          have b20 : B w18 g2 71 ([.int .i64 l.kind, .int .i64 l.ck, .string l.nm, .string l.dt, .int .i64 l.sz, u]) := Hold.blk H10 0 rfl
                          have H11 : Hold w [] w18 [rR i64 2 u l.ns] := (show Hold w [] w18 ([rR i64 2 u l.ns] ++ [rB g2 71 ([.int .i64 l.kind, .int .i64 l.ck, .string l.nm, .string l.dt, .int .i64 l.sz, u]), rR kStr 9 (.slice (some ⟨gv, 0, none⟩) fs.length fs.length) fs, rMS mp (parsersL pg2 pg3 pg4 pg5 pg6 pg7), rB pg2 2 ([.int .i64 2]), rB pg3 2 ([.int .i64 4]), rB pg4 2 ([.int .i64 5]), rB pg5 2 ([.int .i64 6]), rB pg6 2 ([.int .i64 7]), rB pg7 2 ([.int .i64 8]), rB g9 71 ([.int .i64 l.kind, .int .i64 l.ck, .string l.nm, .string l.dt, .int .i64 l.sz, u])]) from Hold.re H10 [9, 0, 1, 2, 3, 4, 5, 6, 7, 8, 10] (by kernel_rfl) (by rfl)).drop
                          clear H10
                          exact finc  (cs := [.int .i64 l.kind, .int .i64 l.ck, .string l.nm, .string l.dt, .int .i64 l.sz, u]) Tryd.results34 Tryd.underlying71 rfl ti71 z2 b20 rfl  ⟨u, by rw [hL], by rw [hL]; exact H11⟩
                      · have hn_trunc := hk
                        by_cases hk : f0 = kMount
                        · refine sq ?_
                          refine rde mixed ?_
                          intro w4 c4
                          have H4 : Hold w [] w4 [rB g2 71 ([.int .i64 0, .int .i64 0, .string ⟨#[]⟩, .string ⟨#[]⟩, .int .i64 0, .slice none 0 0]), rR kStr 9 (.slice (some ⟨gv, 0, none⟩) fs.length fs.length) fs] := Hold.t H3 c4
                          clear H3
                          clear c4
                          have H5d0 : Hold w4 [] w4 [] := Hold.start w4
                          refine ⟨fun w' => Ch [] w4 w', Ch.refl _ _, ?_⟩
                          obtain ⟨_, R6⟩ : ∃ F, Kd.R kStr w4 F (.slice (some ⟨gv, 0, none⟩) fs.length fs.length) fs := Hold.row H4 1 rfl
                          refine edt 1 rfl (by kernel_rfl) (fun w' hS => mv y3) ?_
                          obtain ⟨c48_7, ad48_7, k48_7, e48_7, p48_7⟩ := Kd.R.place R6 0 ((by omega))
                          refine edt 2 rfl (by kernel_rfl) (fun w' hS => ix (j := 0) Tryd.underlying54 ti9 e48_7 rfl ((by omega))) (edt 3 rfl (by kernel_rfl) (fun w' hS => Rn.cast (v' := .string (⟨#[109, 111, 117, 110, 116]⟩ : ByteArray)) (ld Tryd.underlying9 rfl rfl (Ch.cell hS p48_7.cell)) (congrArg Value.string ((gd _).trans (hf0.symm.trans hk)))) (ed1 0 (by kernel_rfl) <| euc rfl go79 an (parsers) ?_))
                          rintro r wp ⟨mp, pg2, pg3, pg4, pg5, pg6, pg7, rfl, Hp⟩
                          have H5d : Hold w4 [] wp [rMS mp (parsersL pg2 pg3 pg4 pg5 pg6 pg7), rB pg2 2 ([.int .i64 2]), rB pg3 2 ([.int .i64 4]), rB pg4 2 ([.int .i64 5]), rB pg5 2 ([.int .i64 6]), rB pg6 2 ([.int .i64 7]), rB pg7 2 ([.int .i64 8])] := Hold.news H5d0 Hp
                          clear H5d0
                          clear Hp
                          refine ⟨.inr (Hold.ch H5d), ?_⟩
                          refine ed1 4 (by kernel_rfl) <| eur rfl (Rn.cast (v' := .tuple #[.func (.func 111) #[] #[], .bool true]) (lkps Tryd.underlying121 Tryd.underlying9 ti119 rfl rfl (Hold.mps (g := mp) H5d 0 rfl)) (by simp [lookS, parsersL])) (.inr (Hold.ch H5d)) ?_
                          refine edt 5 rfl (by kernel_rfl) (fun w' hS => mv rfl) (edt 6 rfl (by kernel_rfl) (fun w' hS => xt rfl rfl) (edt 7 rfl (by kernel_rfl) (fun w' hS => xt rfl rfl) (edt 8 rfl (by kernel_rfl) (fun w' hS => sa rfl) ?_)))
                          have H6 : Hold w [] wp [rB g2 71 ([.int .i64 0, .int .i64 0, .string ⟨#[]⟩, .string ⟨#[]⟩, .int .i64 0, .slice none 0 0]), rR kStr 9 (.slice (some ⟨gv, 0, none⟩) fs.length fs.length) fs, rMS mp (parsersL pg2 pg3 pg4 pg5 pg6 pg7), rB pg2 2 ([.int .i64 2]), rB pg3 2 ([.int .i64 4]), rB pg4 2 ([.int .i64 5]), rB pg5 2 ([.int .i64 6]), rB pg6 2 ([.int .i64 7]), rB pg7 2 ([.int .i64 8])] := Hold.news H4 H5d
                          clear H5d H4
                          refine ed1 9 (by kernel_rfl) <| eur rfl (sa rfl) (.inl (by kernel_rfl)) ?_
                          refine edd (by kernel_rfl) ?_
                          refine sq (sq ?_)
                          refine gen (fun ρ => ρ 2 = .pointer (some ⟨g2, 0, none⟩) ∧ ρ 3 = .slice (some ⟨gv, 0, none⟩) fs.length fs.length ∧ ρ 7 = .func (.func 111) #[] #[] ∧ ρ 8 = .bool true ∧ True) ⟨y2, y3, rfl, rfl, trivial⟩ ?_
                          rintro ρ ⟨z2, z3, z7, z8, -⟩
                          obtain ⟨_, R9⟩ : ∃ F, Kd.R kStr wp F (.slice (some ⟨gv, 0, none⟩) fs.length fs.length) fs := Hold.row H6 1 rfl
                          refine rg (r (mv z8) (r (nt rfl) (re (cf rfl (sk (sq (rg (r (mv z7) (r (mv z3) ?_)))))))))
                          have hL0 : lineV xs = lineF (kMount :: fs.drop 1) := hk ▸ hV0
                          obtain ⟨F11, us11, R11⟩ := Kd.R.sl R9 (1) (fs.length) (by first | omega | (simp; omega)) (by first | omega | (simp; omega))
                          have e11 : (fs.take fs.length).drop 1 = fs.drop 1 := by first | (rw [List.take_length, List.drop_drop]; done) | (rw [List.drop_take]; done) | (simp; done) | (rw [List.drop_take]; congr 1; omega) | (rw [List.take_length, List.drop_drop]; congr 1; omega)
                          rw [e11] at R11
                          refine r (slrl (1) Tryd.underlying54 ti9 R9 rfl rfl (by omega)) (clv rfl go111 (ac rfl an) (parseMount R11 lgs) ?_)
                          rintro r wq ⟨l, okb, u, rfl, hl, Hq⟩
                          have H7 : Hold w [] wq [rB g2 71 ([.int .i64 0, .int .i64 0, .string ⟨#[]⟩, .string ⟨#[]⟩, .int .i64 0, .slice none 0 0]), rR kStr 9 (.slice (some ⟨gv, 0, none⟩) fs.length fs.length) fs, rMS mp (parsersL pg2 pg3 pg4 pg5 pg6 pg7), rB pg2 2 ([.int .i64 2]), rB pg3 2 ([.int .i64 4]), rB pg4 2 ([.int .i64 5]), rB pg5 2 ([.int .i64 6]), rB pg6 2 ([.int .i64 7]), rB pg7 2 ([.int .i64 8]), rR i64 2 u l.ns] := Hold.news H6 Hq
                          clear H6
                          clear Hq
                          refine r (mv rfl) (r (xt rfl rfl) (r (xt rfl rfl) (ef (xal ti71) ?_)))
                          rintro _ w12 ⟨g9, e12, rfl, -, b12, c12⟩
                          have H8 : Hold w [] w12 [rB g2 71 ([.int .i64 0, .int .i64 0, .string ⟨#[]⟩, .string ⟨#[]⟩, .int .i64 0, .slice none 0 0]), rR kStr 9 (.slice (some ⟨gv, 0, none⟩) fs.length fs.length) fs, rMS mp (parsersL pg2 pg3 pg4 pg5 pg6 pg7), rB pg2 2 ([.int .i64 2]), rB pg3 2 ([.int .i64 4]), rB pg4 2 ([.int .i64 5]), rB pg5 2 ([.int .i64 6]), rB pg6 2 ([.int .i64 7]), rB pg7 2 ([.int .i64 8]), rR i64 2 u l.ns, rB g9 71 ([.int .i64 0, .int .i64 0, .string ⟨#[]⟩, .string ⟨#[]⟩, .int .i64 0, .slice none 0 0])] := Hold.newB H7 e12 b12 c12
                          clear H7
                          clear e12 b12 c12
                          have b13 : B w12 g9 71 ([.int .i64 0, .int .i64 0, .string ⟨#[]⟩, .string ⟨#[]⟩, .int .i64 0, .slice none 0 0]) := Hold.blk H8 10 rfl
                          obtain ⟨_, R15⟩ : ∃ F, Kd.R i64 w12 F u l.ns := Hold.row H8 9 rfl
                          refine ef0 (xst (vs := [.int .i64 l.kind, .int .i64 l.ck, .string l.nm, .string l.dt, .int .i64 l.sz, u]) ti71 rfl rfl rfl b13 rfl (Nat.le_of_ble_eq_true rfl) (oc rfl (oc rfl (oc rfl (oc rfl (oc rfl (oc (R15).oneCell on))))))) ?_
                          rintro w14 ⟨-, b14, c14⟩
                          have H9 : Hold w [] w14 [rB g2 71 ([.int .i64 0, .int .i64 0, .string ⟨#[]⟩, .string ⟨#[]⟩, .int .i64 0, .slice none 0 0]), rR kStr 9 (.slice (some ⟨gv, 0, none⟩) fs.length fs.length) fs, rMS mp (parsersL pg2 pg3 pg4 pg5 pg6 pg7), rB pg2 2 ([.int .i64 2]), rB pg3 2 ([.int .i64 4]), rB pg4 2 ([.int .i64 5]), rB pg5 2 ([.int .i64 6]), rB pg6 2 ([.int .i64 7]), rB pg7 2 ([.int .i64 8]), rR i64 2 u l.ns, rB g9 71 ([.int .i64 l.kind, .int .i64 l.ck, .string l.nm, .string l.dt, .int .i64 l.sz, u])] := Hold.setB H8 10 rfl b14 c14 rfl
                          clear H8
                          clear b14 c14
                          refine r (sa rfl) (re (sq (sq ?_)))
                          refine gen (fun ρ => ρ 2 = .pointer (some ⟨g2, 0, none⟩) ∧ ρ 9 = .pointer (some ⟨g9, 0, none⟩) ∧ ρ 10 = .bool okb ∧ True) ⟨z2, rfl, rfl, trivial⟩ ?_
                          rintro ρ ⟨z2, z9, z10, -⟩
                          refine rg (r (mv z10) (r (nt rfl) (re ?_)))
                          refine cd rfl (fun hok => ?_) (fun hok => ?_)
                          · have hL : lineV xs = badL := by rw [hL0, ← hl, if_neg (by simpa using hok)]
                            have b16 : B w14 g2 71 ([.int .i64 0, .int .i64 0, .string ⟨#[]⟩, .string ⟨#[]⟩, .int .i64 0, .slice none 0 0]) := Hold.blk H9 0 rfl
                            refine sq (rg (r (bd (r := [.int .i64 0, .int .i64 0, .string ⟨#[]⟩, .string ⟨#[]⟩, .int .i64 0, .slice none 0 0]) ti71 pl71 pn rfl) (ef0 (xst (vs := [.int .i64 0, .int .i64 0, .string ⟨#[]⟩, .string ⟨#[]⟩, .int .i64 0, .slice none 0 0]) ti71 z2 rfl rfl b16 rfl (Nat.le_of_ble_eq_true rfl) (one_all rfl)) ?_)))
                            rintro w17 ⟨-, b17, c17⟩
                            have H10 : Hold w [] w17 [rB g2 71 ([.int .i64 0, .int .i64 0, .string ⟨#[]⟩, .string ⟨#[]⟩, .int .i64 0, .slice none 0 0]), rR kStr 9 (.slice (some ⟨gv, 0, none⟩) fs.length fs.length) fs, rMS mp (parsersL pg2 pg3 pg4 pg5 pg6 pg7), rB pg2 2 ([.int .i64 2]), rB pg3 2 ([.int .i64 4]), rB pg4 2 ([.int .i64 5]), rB pg5 2 ([.int .i64 6]), rB pg6 2 ([.int .i64 7]), rB pg7 2 ([.int .i64 8]), rR i64 2 u l.ns, rB g9 71 ([.int .i64 l.kind, .int .i64 l.ck, .string l.nm, .string l.dt, .int .i64 l.sz, u])] := Hold.setB H9 0 rfl b17 c17 rfl
                            clear H9
                            clear b17 c17
                            refine re (rt ?_)
                            have H11 : Hold w [] w17 [rB g2 71 ([.int .i64 0, .int .i64 0, .string ⟨#[]⟩, .string ⟨#[]⟩, .int .i64 0, .slice none 0 0]), rR kStr 9 (.slice (some ⟨gv, 0, none⟩) fs.length fs.length) fs, rMS mp (parsersL pg2 pg3 pg4 pg5 pg6 pg7), rB pg2 2 ([.int .i64 2]), rB pg3 2 ([.int .i64 4]), rB pg4 2 ([.int .i64 5]), rB pg5 2 ([.int .i64 6]), rB pg6 2 ([.int .i64 7]), rB pg7 2 ([.int .i64 8]), rR i64 2 u l.ns, rB g9 71 ([.int .i64 l.kind, .int .i64 l.ck, .string l.nm, .string l.dt, .int .i64 l.sz, u]), rR i64 2 (.slice none 0 0) ([])] := Hold.nilrow i64 2 H10
                            clear H10
                            have b18 : B w17 g2 71 ([.int .i64 0, .int .i64 0, .string ⟨#[]⟩, .string ⟨#[]⟩, .int .i64 0, .slice none 0 0]) := Hold.blk H11 0 rfl
                            have H12 : Hold w [] w17 [rR i64 2 (.slice none 0 0) ([])] := (show Hold w [] w17 ([rR i64 2 (.slice none 0 0) ([])] ++ [rB g2 71 ([.int .i64 0, .int .i64 0, .string ⟨#[]⟩, .string ⟨#[]⟩, .int .i64 0, .slice none 0 0]), rR kStr 9 (.slice (some ⟨gv, 0, none⟩) fs.length fs.length) fs, rMS mp (parsersL pg2 pg3 pg4 pg5 pg6 pg7), rB pg2 2 ([.int .i64 2]), rB pg3 2 ([.int .i64 4]), rB pg4 2 ([.int .i64 5]), rB pg5 2 ([.int .i64 6]), rB pg6 2 ([.int .i64 7]), rB pg7 2 ([.int .i64 8]), rR i64 2 u l.ns, rB g9 71 ([.int .i64 l.kind, .int .i64 l.ck, .string l.nm, .string l.dt, .int .i64 l.sz, u])]) from Hold.re H11 [11, 0, 1, 2, 3, 4, 5, 6, 7, 8, 9, 10] (by kernel_rfl) (by rfl)).drop
                            clear H11
                            exact finc  (cs := [.int .i64 0, .int .i64 0, .string ⟨#[]⟩, .string ⟨#[]⟩, .int .i64 0, .slice none 0 0]) Tryd.results34 Tryd.underlying71 rfl ti71 z2 b18 rfl  ⟨_, by rw [hL], by rw [hL]; exact H12⟩
                          · have hL : lineV xs = l := by rw [hL0, ← hl, if_pos (by simpa using hok)]
                            have b16 : B w14 g9 71 ([.int .i64 l.kind, .int .i64 l.ck, .string l.nm, .string l.dt, .int .i64 l.sz, u]) := Hold.blk H9 10 rfl
                            have b17 : B w14 g2 71 ([.int .i64 0, .int .i64 0, .string ⟨#[]⟩, .string ⟨#[]⟩, .int .i64 0, .slice none 0 0]) := Hold.blk H9 0 rfl
                            obtain ⟨_, R19⟩ : ∃ F, Kd.R i64 w14 F u l.ns := Hold.row H9 9 rfl
                            refine sk (sq (rg (r (lab [.int .i64 l.kind, .int .i64 l.ck, .string l.nm, .string l.dt, .int .i64 l.sz, u] Tryd.underlying71 rfl ti71 z9 b16 rfl rfl) (ef0 (xst (vs := [.int .i64 l.kind, .int .i64 l.ck, .string l.nm, .string l.dt, .int .i64 l.sz, u]) ti71 z2 rfl rfl b17 rfl (Nat.le_of_ble_eq_true rfl) (oc rfl (oc rfl (oc rfl (oc rfl (oc rfl (oc (R19).oneCell on))))))) ?_))))
                            rintro w18 ⟨-, b18, c18⟩
                            have H10 : Hold w [] w18 [rB g2 71 ([.int .i64 l.kind, .int .i64 l.ck, .string l.nm, .string l.dt, .int .i64 l.sz, u]), rR kStr 9 (.slice (some ⟨gv, 0, none⟩) fs.length fs.length) fs, rMS mp (parsersL pg2 pg3 pg4 pg5 pg6 pg7), rB pg2 2 ([.int .i64 2]), rB pg3 2 ([.int .i64 4]), rB pg4 2 ([.int .i64 5]), rB pg5 2 ([.int .i64 6]), rB pg6 2 ([.int .i64 7]), rB pg7 2 ([.int .i64 8]), rR i64 2 u l.ns, rB g9 71 ([.int .i64 l.kind, .int .i64 l.ck, .string l.nm, .string l.dt, .int .i64 l.sz, u])] := Hold.setB H9 0 rfl b18 c18 rfl
                            clear H9
                            clear b18 c18
                            refine re (rt ?_)
                            have b20 : B w18 g2 71 ([.int .i64 l.kind, .int .i64 l.ck, .string l.nm, .string l.dt, .int .i64 l.sz, u]) := Hold.blk H10 0 rfl
                            have H11 : Hold w [] w18 [rR i64 2 u l.ns] := (show Hold w [] w18 ([rR i64 2 u l.ns] ++ [rB g2 71 ([.int .i64 l.kind, .int .i64 l.ck, .string l.nm, .string l.dt, .int .i64 l.sz, u]), rR kStr 9 (.slice (some ⟨gv, 0, none⟩) fs.length fs.length) fs, rMS mp (parsersL pg2 pg3 pg4 pg5 pg6 pg7), rB pg2 2 ([.int .i64 2]), rB pg3 2 ([.int .i64 4]), rB pg4 2 ([.int .i64 5]), rB pg5 2 ([.int .i64 6]), rB pg6 2 ([.int .i64 7]), rB pg7 2 ([.int .i64 8]), rB g9 71 ([.int .i64 l.kind, .int .i64 l.ck, .string l.nm, .string l.dt, .int .i64 l.sz, u])]) from Hold.re H10 [9, 0, 1, 2, 3, 4, 5, 6, 7, 8, 10] (by kernel_rfl) (by rfl)).drop
                            clear H10
                            exact finc  (cs := [.int .i64 l.kind, .int .i64 l.ck, .string l.nm, .string l.dt, .int .i64 l.sz, u]) Tryd.results34 Tryd.underlying71 rfl ti71 z2 b20 rfl  ⟨u, by rw [hL], by rw [hL]; exact H11⟩
                        · have hn_mount := hk
                          by_cases hk : f0 = kArm
                          · refine sq ?_
                            refine rde mixed ?_
                            intro w4 c4
                            have H4 : Hold w [] w4 [rB g2 71 ([.int .i64 0, .int .i64 0, .string ⟨#[]⟩, .string ⟨#[]⟩, .int .i64 0, .slice none 0 0]), rR kStr 9 (.slice (some ⟨gv, 0, none⟩) fs.length fs.length) fs] := Hold.t H3 c4
                            clear H3
                            clear c4
                            have H5d0 : Hold w4 [] w4 [] := Hold.start w4
                            refine ⟨fun w' => Ch [] w4 w', Ch.refl _ _, ?_⟩
                            obtain ⟨_, R6⟩ : ∃ F, Kd.R kStr w4 F (.slice (some ⟨gv, 0, none⟩) fs.length fs.length) fs := Hold.row H4 1 rfl
                            refine edt 1 rfl (by kernel_rfl) (fun w' hS => mv y3) ?_
                            obtain ⟨c48_7, ad48_7, k48_7, e48_7, p48_7⟩ := Kd.R.place R6 0 ((by omega))
                            refine edt 2 rfl (by kernel_rfl) (fun w' hS => ix (j := 0) Tryd.underlying54 ti9 e48_7 rfl ((by omega))) (edt 3 rfl (by kernel_rfl) (fun w' hS => Rn.cast (v' := .string (⟨#[97, 114, 109]⟩ : ByteArray)) (ld Tryd.underlying9 rfl rfl (Ch.cell hS p48_7.cell)) (congrArg Value.string ((gd _).trans (hf0.symm.trans hk)))) (ed1 0 (by kernel_rfl) <| euc rfl go79 an (parsers) ?_))
                            rintro r wp ⟨mp, pg2, pg3, pg4, pg5, pg6, pg7, rfl, Hp⟩
                            have H5d : Hold w4 [] wp [rMS mp (parsersL pg2 pg3 pg4 pg5 pg6 pg7), rB pg2 2 ([.int .i64 2]), rB pg3 2 ([.int .i64 4]), rB pg4 2 ([.int .i64 5]), rB pg5 2 ([.int .i64 6]), rB pg6 2 ([.int .i64 7]), rB pg7 2 ([.int .i64 8])] := Hold.news H5d0 Hp
                            clear H5d0
                            clear Hp
                            refine ⟨.inr (Hold.ch H5d), ?_⟩
                            refine ed1 4 (by kernel_rfl) <| eur rfl (Rn.cast (v' := .tuple #[.func (.func 112) #[] #[], .bool true]) (lkps Tryd.underlying121 Tryd.underlying9 ti119 rfl rfl (Hold.mps (g := mp) H5d 0 rfl)) (by simp [lookS, parsersL])) (.inr (Hold.ch H5d)) ?_
                            refine edt 5 rfl (by kernel_rfl) (fun w' hS => mv rfl) (edt 6 rfl (by kernel_rfl) (fun w' hS => xt rfl rfl) (edt 7 rfl (by kernel_rfl) (fun w' hS => xt rfl rfl) (edt 8 rfl (by kernel_rfl) (fun w' hS => sa rfl) ?_)))
                            have H6 : Hold w [] wp [rB g2 71 ([.int .i64 0, .int .i64 0, .string ⟨#[]⟩, .string ⟨#[]⟩, .int .i64 0, .slice none 0 0]), rR kStr 9 (.slice (some ⟨gv, 0, none⟩) fs.length fs.length) fs, rMS mp (parsersL pg2 pg3 pg4 pg5 pg6 pg7), rB pg2 2 ([.int .i64 2]), rB pg3 2 ([.int .i64 4]), rB pg4 2 ([.int .i64 5]), rB pg5 2 ([.int .i64 6]), rB pg6 2 ([.int .i64 7]), rB pg7 2 ([.int .i64 8])] := Hold.news H4 H5d
                            clear H5d H4
                            refine ed1 9 (by kernel_rfl) <| eur rfl (sa rfl) (.inl (by kernel_rfl)) ?_
                            refine edd (by kernel_rfl) ?_
                            refine sq (sq ?_)
                            refine gen (fun ρ => ρ 2 = .pointer (some ⟨g2, 0, none⟩) ∧ ρ 3 = .slice (some ⟨gv, 0, none⟩) fs.length fs.length ∧ ρ 7 = .func (.func 112) #[] #[] ∧ ρ 8 = .bool true ∧ True) ⟨y2, y3, rfl, rfl, trivial⟩ ?_
                            rintro ρ ⟨z2, z3, z7, z8, -⟩
                            obtain ⟨_, R9⟩ : ∃ F, Kd.R kStr wp F (.slice (some ⟨gv, 0, none⟩) fs.length fs.length) fs := Hold.row H6 1 rfl
                            refine rg (r (mv z8) (r (nt rfl) (re (cf rfl (sk (sq (rg (r (mv z7) (r (mv z3) ?_)))))))))
                            have hL0 : lineV xs = lineF (kArm :: fs.drop 1) := hk ▸ hV0
                            obtain ⟨F11, us11, R11⟩ := Kd.R.sl R9 (1) (fs.length) (by first | omega | (simp; omega)) (by first | omega | (simp; omega))
                            have e11 : (fs.take fs.length).drop 1 = fs.drop 1 := by first | (rw [List.take_length, List.drop_drop]; done) | (rw [List.drop_take]; done) | (simp; done) | (rw [List.drop_take]; congr 1; omega) | (rw [List.take_length, List.drop_drop]; congr 1; omega)
                            rw [e11] at R11
                            refine r (slrl (1) Tryd.underlying54 ti9 R9 rfl rfl (by omega)) (clv rfl go112 (ac rfl an) (parseArm R11 lgs) ?_)
                            rintro r wq ⟨l, okb, u, rfl, hl, Hq⟩
                            have H7 : Hold w [] wq [rB g2 71 ([.int .i64 0, .int .i64 0, .string ⟨#[]⟩, .string ⟨#[]⟩, .int .i64 0, .slice none 0 0]), rR kStr 9 (.slice (some ⟨gv, 0, none⟩) fs.length fs.length) fs, rMS mp (parsersL pg2 pg3 pg4 pg5 pg6 pg7), rB pg2 2 ([.int .i64 2]), rB pg3 2 ([.int .i64 4]), rB pg4 2 ([.int .i64 5]), rB pg5 2 ([.int .i64 6]), rB pg6 2 ([.int .i64 7]), rB pg7 2 ([.int .i64 8]), rR i64 2 u l.ns] := Hold.news H6 Hq
                            clear H6
                            clear Hq
                            refine r (mv rfl) (r (xt rfl rfl) (r (xt rfl rfl) (ef (xal ti71) ?_)))
                            rintro _ w12 ⟨g9, e12, rfl, -, b12, c12⟩
                            have H8 : Hold w [] w12 [rB g2 71 ([.int .i64 0, .int .i64 0, .string ⟨#[]⟩, .string ⟨#[]⟩, .int .i64 0, .slice none 0 0]), rR kStr 9 (.slice (some ⟨gv, 0, none⟩) fs.length fs.length) fs, rMS mp (parsersL pg2 pg3 pg4 pg5 pg6 pg7), rB pg2 2 ([.int .i64 2]), rB pg3 2 ([.int .i64 4]), rB pg4 2 ([.int .i64 5]), rB pg5 2 ([.int .i64 6]), rB pg6 2 ([.int .i64 7]), rB pg7 2 ([.int .i64 8]), rR i64 2 u l.ns, rB g9 71 ([.int .i64 0, .int .i64 0, .string ⟨#[]⟩, .string ⟨#[]⟩, .int .i64 0, .slice none 0 0])] := Hold.newB H7 e12 b12 c12
                            clear H7
                            clear e12 b12 c12
                            have b13 : B w12 g9 71 ([.int .i64 0, .int .i64 0, .string ⟨#[]⟩, .string ⟨#[]⟩, .int .i64 0, .slice none 0 0]) := Hold.blk H8 10 rfl
                            obtain ⟨_, R15⟩ : ∃ F, Kd.R i64 w12 F u l.ns := Hold.row H8 9 rfl
                            refine ef0 (xst (vs := [.int .i64 l.kind, .int .i64 l.ck, .string l.nm, .string l.dt, .int .i64 l.sz, u]) ti71 rfl rfl rfl b13 rfl (Nat.le_of_ble_eq_true rfl) (oc rfl (oc rfl (oc rfl (oc rfl (oc rfl (oc (R15).oneCell on))))))) ?_
                            rintro w14 ⟨-, b14, c14⟩
                            have H9 : Hold w [] w14 [rB g2 71 ([.int .i64 0, .int .i64 0, .string ⟨#[]⟩, .string ⟨#[]⟩, .int .i64 0, .slice none 0 0]), rR kStr 9 (.slice (some ⟨gv, 0, none⟩) fs.length fs.length) fs, rMS mp (parsersL pg2 pg3 pg4 pg5 pg6 pg7), rB pg2 2 ([.int .i64 2]), rB pg3 2 ([.int .i64 4]), rB pg4 2 ([.int .i64 5]), rB pg5 2 ([.int .i64 6]), rB pg6 2 ([.int .i64 7]), rB pg7 2 ([.int .i64 8]), rR i64 2 u l.ns, rB g9 71 ([.int .i64 l.kind, .int .i64 l.ck, .string l.nm, .string l.dt, .int .i64 l.sz, u])] := Hold.setB H8 10 rfl b14 c14 rfl
                            clear H8
                            clear b14 c14
                            refine r (sa rfl) (re (sq (sq ?_)))
                            refine gen (fun ρ => ρ 2 = .pointer (some ⟨g2, 0, none⟩) ∧ ρ 9 = .pointer (some ⟨g9, 0, none⟩) ∧ ρ 10 = .bool okb ∧ True) ⟨z2, rfl, rfl, trivial⟩ ?_
                            rintro ρ ⟨z2, z9, z10, -⟩
                            refine rg (r (mv z10) (r (nt rfl) (re ?_)))
                            refine cd rfl (fun hok => ?_) (fun hok => ?_)
                            · have hL : lineV xs = badL := by rw [hL0, ← hl, if_neg (by simpa using hok)]
                              have b16 : B w14 g2 71 ([.int .i64 0, .int .i64 0, .string ⟨#[]⟩, .string ⟨#[]⟩, .int .i64 0, .slice none 0 0]) := Hold.blk H9 0 rfl
                              refine sq (rg (r (bd (r := [.int .i64 0, .int .i64 0, .string ⟨#[]⟩, .string ⟨#[]⟩, .int .i64 0, .slice none 0 0]) ti71 pl71 pn rfl) (ef0 (xst (vs := [.int .i64 0, .int .i64 0, .string ⟨#[]⟩, .string ⟨#[]⟩, .int .i64 0, .slice none 0 0]) ti71 z2 rfl rfl b16 rfl (Nat.le_of_ble_eq_true rfl) (one_all rfl)) ?_)))
                              rintro w17 ⟨-, b17, c17⟩
                              have H10 : Hold w [] w17 [rB g2 71 ([.int .i64 0, .int .i64 0, .string ⟨#[]⟩, .string ⟨#[]⟩, .int .i64 0, .slice none 0 0]), rR kStr 9 (.slice (some ⟨gv, 0, none⟩) fs.length fs.length) fs, rMS mp (parsersL pg2 pg3 pg4 pg5 pg6 pg7), rB pg2 2 ([.int .i64 2]), rB pg3 2 ([.int .i64 4]), rB pg4 2 ([.int .i64 5]), rB pg5 2 ([.int .i64 6]), rB pg6 2 ([.int .i64 7]), rB pg7 2 ([.int .i64 8]), rR i64 2 u l.ns, rB g9 71 ([.int .i64 l.kind, .int .i64 l.ck, .string l.nm, .string l.dt, .int .i64 l.sz, u])] := Hold.setB H9 0 rfl b17 c17 rfl
                              clear H9
                              clear b17 c17
                              refine re (rt ?_)
                              have H11 : Hold w [] w17 [rB g2 71 ([.int .i64 0, .int .i64 0, .string ⟨#[]⟩, .string ⟨#[]⟩, .int .i64 0, .slice none 0 0]), rR kStr 9 (.slice (some ⟨gv, 0, none⟩) fs.length fs.length) fs, rMS mp (parsersL pg2 pg3 pg4 pg5 pg6 pg7), rB pg2 2 ([.int .i64 2]), rB pg3 2 ([.int .i64 4]), rB pg4 2 ([.int .i64 5]), rB pg5 2 ([.int .i64 6]), rB pg6 2 ([.int .i64 7]), rB pg7 2 ([.int .i64 8]), rR i64 2 u l.ns, rB g9 71 ([.int .i64 l.kind, .int .i64 l.ck, .string l.nm, .string l.dt, .int .i64 l.sz, u]), rR i64 2 (.slice none 0 0) ([])] := Hold.nilrow i64 2 H10
                              clear H10
                              have b18 : B w17 g2 71 ([.int .i64 0, .int .i64 0, .string ⟨#[]⟩, .string ⟨#[]⟩, .int .i64 0, .slice none 0 0]) := Hold.blk H11 0 rfl
                              have H12 : Hold w [] w17 [rR i64 2 (.slice none 0 0) ([])] := (show Hold w [] w17 ([rR i64 2 (.slice none 0 0) ([])] ++ [rB g2 71 ([.int .i64 0, .int .i64 0, .string ⟨#[]⟩, .string ⟨#[]⟩, .int .i64 0, .slice none 0 0]), rR kStr 9 (.slice (some ⟨gv, 0, none⟩) fs.length fs.length) fs, rMS mp (parsersL pg2 pg3 pg4 pg5 pg6 pg7), rB pg2 2 ([.int .i64 2]), rB pg3 2 ([.int .i64 4]), rB pg4 2 ([.int .i64 5]), rB pg5 2 ([.int .i64 6]), rB pg6 2 ([.int .i64 7]), rB pg7 2 ([.int .i64 8]), rR i64 2 u l.ns, rB g9 71 ([.int .i64 l.kind, .int .i64 l.ck, .string l.nm, .string l.dt, .int .i64 l.sz, u])]) from Hold.re H11 [11, 0, 1, 2, 3, 4, 5, 6, 7, 8, 9, 10] (by kernel_rfl) (by rfl)).drop
                              clear H11
                              exact finc  (cs := [.int .i64 0, .int .i64 0, .string ⟨#[]⟩, .string ⟨#[]⟩, .int .i64 0, .slice none 0 0]) Tryd.results34 Tryd.underlying71 rfl ti71 z2 b18 rfl  ⟨_, by rw [hL], by rw [hL]; exact H12⟩
                            · have hL : lineV xs = l := by rw [hL0, ← hl, if_pos (by simpa using hok)]
                              have b16 : B w14 g9 71 ([.int .i64 l.kind, .int .i64 l.ck, .string l.nm, .string l.dt, .int .i64 l.sz, u]) := Hold.blk H9 10 rfl
                              have b17 : B w14 g2 71 ([.int .i64 0, .int .i64 0, .string ⟨#[]⟩, .string ⟨#[]⟩, .int .i64 0, .slice none 0 0]) := Hold.blk H9 0 rfl
                              obtain ⟨_, R19⟩ : ∃ F, Kd.R i64 w14 F u l.ns := Hold.row H9 9 rfl
                              refine sk (sq (rg (r (lab [.int .i64 l.kind, .int .i64 l.ck, .string l.nm, .string l.dt, .int .i64 l.sz, u] Tryd.underlying71 rfl ti71 z9 b16 rfl rfl) (ef0 (xst (vs := [.int .i64 l.kind, .int .i64 l.ck, .string l.nm, .string l.dt, .int .i64 l.sz, u]) ti71 z2 rfl rfl b17 rfl (Nat.le_of_ble_eq_true rfl) (oc rfl (oc rfl (oc rfl (oc rfl (oc rfl (oc (R19).oneCell on))))))) ?_))))
                              rintro w18 ⟨-, b18, c18⟩
                              have H10 : Hold w [] w18 [rB g2 71 ([.int .i64 l.kind, .int .i64 l.ck, .string l.nm, .string l.dt, .int .i64 l.sz, u]), rR kStr 9 (.slice (some ⟨gv, 0, none⟩) fs.length fs.length) fs, rMS mp (parsersL pg2 pg3 pg4 pg5 pg6 pg7), rB pg2 2 ([.int .i64 2]), rB pg3 2 ([.int .i64 4]), rB pg4 2 ([.int .i64 5]), rB pg5 2 ([.int .i64 6]), rB pg6 2 ([.int .i64 7]), rB pg7 2 ([.int .i64 8]), rR i64 2 u l.ns, rB g9 71 ([.int .i64 l.kind, .int .i64 l.ck, .string l.nm, .string l.dt, .int .i64 l.sz, u])] := Hold.setB H9 0 rfl b18 c18 rfl
                              clear H9
                              clear b18 c18
                              refine re (rt ?_)
                              have b20 : B w18 g2 71 ([.int .i64 l.kind, .int .i64 l.ck, .string l.nm, .string l.dt, .int .i64 l.sz, u]) := Hold.blk H10 0 rfl
                              have H11 : Hold w [] w18 [rR i64 2 u l.ns] := (show Hold w [] w18 ([rR i64 2 u l.ns] ++ [rB g2 71 ([.int .i64 l.kind, .int .i64 l.ck, .string l.nm, .string l.dt, .int .i64 l.sz, u]), rR kStr 9 (.slice (some ⟨gv, 0, none⟩) fs.length fs.length) fs, rMS mp (parsersL pg2 pg3 pg4 pg5 pg6 pg7), rB pg2 2 ([.int .i64 2]), rB pg3 2 ([.int .i64 4]), rB pg4 2 ([.int .i64 5]), rB pg5 2 ([.int .i64 6]), rB pg6 2 ([.int .i64 7]), rB pg7 2 ([.int .i64 8]), rB g9 71 ([.int .i64 l.kind, .int .i64 l.ck, .string l.nm, .string l.dt, .int .i64 l.sz, u])]) from Hold.re H10 [9, 0, 1, 2, 3, 4, 5, 6, 7, 8, 10] (by kernel_rfl) (by rfl)).drop
                              clear H10
                              exact finc  (cs := [.int .i64 l.kind, .int .i64 l.ck, .string l.nm, .string l.dt, .int .i64 l.sz, u]) Tryd.results34 Tryd.underlying71 rfl ti71 z2 b20 rfl  ⟨u, by rw [hL], by rw [hL]; exact H11⟩
                          · have hn_arm := hk
                            by_cases hk : f0 = kCrash
                            · refine sq ?_
                              refine rde mixed ?_
                              intro w4 c4
                              have H4 : Hold w [] w4 [rB g2 71 ([.int .i64 0, .int .i64 0, .string ⟨#[]⟩, .string ⟨#[]⟩, .int .i64 0, .slice none 0 0]), rR kStr 9 (.slice (some ⟨gv, 0, none⟩) fs.length fs.length) fs] := Hold.t H3 c4
                              clear H3
                              clear c4
                              have H5d0 : Hold w4 [] w4 [] := Hold.start w4
                              refine ⟨fun w' => Ch [] w4 w', Ch.refl _ _, ?_⟩
                              obtain ⟨_, R6⟩ : ∃ F, Kd.R kStr w4 F (.slice (some ⟨gv, 0, none⟩) fs.length fs.length) fs := Hold.row H4 1 rfl
                              refine edt 1 rfl (by kernel_rfl) (fun w' hS => mv y3) ?_
                              obtain ⟨c48_7, ad48_7, k48_7, e48_7, p48_7⟩ := Kd.R.place R6 0 ((by omega))
                              refine edt 2 rfl (by kernel_rfl) (fun w' hS => ix (j := 0) Tryd.underlying54 ti9 e48_7 rfl ((by omega))) (edt 3 rfl (by kernel_rfl) (fun w' hS => Rn.cast (v' := .string (⟨#[99, 114, 97, 115, 104]⟩ : ByteArray)) (ld Tryd.underlying9 rfl rfl (Ch.cell hS p48_7.cell)) (congrArg Value.string ((gd _).trans (hf0.symm.trans hk)))) (ed1 0 (by kernel_rfl) <| euc rfl go79 an (parsers) ?_))
                              rintro r wp ⟨mp, pg2, pg3, pg4, pg5, pg6, pg7, rfl, Hp⟩
                              have H5d : Hold w4 [] wp [rMS mp (parsersL pg2 pg3 pg4 pg5 pg6 pg7), rB pg2 2 ([.int .i64 2]), rB pg3 2 ([.int .i64 4]), rB pg4 2 ([.int .i64 5]), rB pg5 2 ([.int .i64 6]), rB pg6 2 ([.int .i64 7]), rB pg7 2 ([.int .i64 8])] := Hold.news H5d0 Hp
                              clear H5d0
                              clear Hp
                              refine ⟨.inr (Hold.ch H5d), ?_⟩
                              refine ed1 4 (by kernel_rfl) <| eur rfl (Rn.cast (v' := .tuple #[.func (.func 113) #[] #[], .bool true]) (lkps Tryd.underlying121 Tryd.underlying9 ti119 rfl rfl (Hold.mps (g := mp) H5d 0 rfl)) (by simp [lookS, parsersL])) (.inr (Hold.ch H5d)) ?_
                              refine edt 5 rfl (by kernel_rfl) (fun w' hS => mv rfl) (edt 6 rfl (by kernel_rfl) (fun w' hS => xt rfl rfl) (edt 7 rfl (by kernel_rfl) (fun w' hS => xt rfl rfl) (edt 8 rfl (by kernel_rfl) (fun w' hS => sa rfl) ?_)))
                              have H6 : Hold w [] wp [rB g2 71 ([.int .i64 0, .int .i64 0, .string ⟨#[]⟩, .string ⟨#[]⟩, .int .i64 0, .slice none 0 0]), rR kStr 9 (.slice (some ⟨gv, 0, none⟩) fs.length fs.length) fs, rMS mp (parsersL pg2 pg3 pg4 pg5 pg6 pg7), rB pg2 2 ([.int .i64 2]), rB pg3 2 ([.int .i64 4]), rB pg4 2 ([.int .i64 5]), rB pg5 2 ([.int .i64 6]), rB pg6 2 ([.int .i64 7]), rB pg7 2 ([.int .i64 8])] := Hold.news H4 H5d
                              clear H5d H4
                              refine ed1 9 (by kernel_rfl) <| eur rfl (sa rfl) (.inl (by kernel_rfl)) ?_
                              refine edd (by kernel_rfl) ?_
                              refine sq (sq ?_)
                              refine gen (fun ρ => ρ 2 = .pointer (some ⟨g2, 0, none⟩) ∧ ρ 3 = .slice (some ⟨gv, 0, none⟩) fs.length fs.length ∧ ρ 7 = .func (.func 113) #[] #[] ∧ ρ 8 = .bool true ∧ True) ⟨y2, y3, rfl, rfl, trivial⟩ ?_
                              rintro ρ ⟨z2, z3, z7, z8, -⟩
                              obtain ⟨_, R9⟩ : ∃ F, Kd.R kStr wp F (.slice (some ⟨gv, 0, none⟩) fs.length fs.length) fs := Hold.row H6 1 rfl
                              refine rg (r (mv z8) (r (nt rfl) (re (cf rfl (sk (sq (rg (r (mv z7) (r (mv z3) ?_)))))))))
                              have hL0 : lineV xs = lineF (kCrash :: fs.drop 1) := hk ▸ hV0
                              obtain ⟨F11, us11, R11⟩ := Kd.R.sl R9 (1) (fs.length) (by first | omega | (simp; omega)) (by first | omega | (simp; omega))
                              have e11 : (fs.take fs.length).drop 1 = fs.drop 1 := by first | (rw [List.take_length, List.drop_drop]; done) | (rw [List.drop_take]; done) | (simp; done) | (rw [List.drop_take]; congr 1; omega) | (rw [List.take_length, List.drop_drop]; congr 1; omega)
                              rw [e11] at R11
                              refine r (slrl (1) Tryd.underlying54 ti9 R9 rfl rfl (by omega)) (clv rfl go113 (ac rfl an) (parseCrash R11 lgs) ?_)
                              rintro r wq ⟨l, okb, u, rfl, hl, Hq⟩
                              have H7 : Hold w [] wq [rB g2 71 ([.int .i64 0, .int .i64 0, .string ⟨#[]⟩, .string ⟨#[]⟩, .int .i64 0, .slice none 0 0]), rR kStr 9 (.slice (some ⟨gv, 0, none⟩) fs.length fs.length) fs, rMS mp (parsersL pg2 pg3 pg4 pg5 pg6 pg7), rB pg2 2 ([.int .i64 2]), rB pg3 2 ([.int .i64 4]), rB pg4 2 ([.int .i64 5]), rB pg5 2 ([.int .i64 6]), rB pg6 2 ([.int .i64 7]), rB pg7 2 ([.int .i64 8]), rR i64 2 u l.ns] := Hold.news H6 Hq
                              clear H6
                              clear Hq
                              refine r (mv rfl) (r (xt rfl rfl) (r (xt rfl rfl) (ef (xal ti71) ?_)))
                              rintro _ w12 ⟨g9, e12, rfl, -, b12, c12⟩
                              have H8 : Hold w [] w12 [rB g2 71 ([.int .i64 0, .int .i64 0, .string ⟨#[]⟩, .string ⟨#[]⟩, .int .i64 0, .slice none 0 0]), rR kStr 9 (.slice (some ⟨gv, 0, none⟩) fs.length fs.length) fs, rMS mp (parsersL pg2 pg3 pg4 pg5 pg6 pg7), rB pg2 2 ([.int .i64 2]), rB pg3 2 ([.int .i64 4]), rB pg4 2 ([.int .i64 5]), rB pg5 2 ([.int .i64 6]), rB pg6 2 ([.int .i64 7]), rB pg7 2 ([.int .i64 8]), rR i64 2 u l.ns, rB g9 71 ([.int .i64 0, .int .i64 0, .string ⟨#[]⟩, .string ⟨#[]⟩, .int .i64 0, .slice none 0 0])] := Hold.newB H7 e12 b12 c12
                              clear H7
                              clear e12 b12 c12
                              have b13 : B w12 g9 71 ([.int .i64 0, .int .i64 0, .string ⟨#[]⟩, .string ⟨#[]⟩, .int .i64 0, .slice none 0 0]) := Hold.blk H8 10 rfl
                              obtain ⟨_, R15⟩ : ∃ F, Kd.R i64 w12 F u l.ns := Hold.row H8 9 rfl
                              refine ef0 (xst (vs := [.int .i64 l.kind, .int .i64 l.ck, .string l.nm, .string l.dt, .int .i64 l.sz, u]) ti71 rfl rfl rfl b13 rfl (Nat.le_of_ble_eq_true rfl) (oc rfl (oc rfl (oc rfl (oc rfl (oc rfl (oc (R15).oneCell on))))))) ?_
                              rintro w14 ⟨-, b14, c14⟩
                              have H9 : Hold w [] w14 [rB g2 71 ([.int .i64 0, .int .i64 0, .string ⟨#[]⟩, .string ⟨#[]⟩, .int .i64 0, .slice none 0 0]), rR kStr 9 (.slice (some ⟨gv, 0, none⟩) fs.length fs.length) fs, rMS mp (parsersL pg2 pg3 pg4 pg5 pg6 pg7), rB pg2 2 ([.int .i64 2]), rB pg3 2 ([.int .i64 4]), rB pg4 2 ([.int .i64 5]), rB pg5 2 ([.int .i64 6]), rB pg6 2 ([.int .i64 7]), rB pg7 2 ([.int .i64 8]), rR i64 2 u l.ns, rB g9 71 ([.int .i64 l.kind, .int .i64 l.ck, .string l.nm, .string l.dt, .int .i64 l.sz, u])] := Hold.setB H8 10 rfl b14 c14 rfl
                              clear H8
                              clear b14 c14
                              refine r (sa rfl) (re (sq (sq ?_)))
                              refine gen (fun ρ => ρ 2 = .pointer (some ⟨g2, 0, none⟩) ∧ ρ 9 = .pointer (some ⟨g9, 0, none⟩) ∧ ρ 10 = .bool okb ∧ True) ⟨z2, rfl, rfl, trivial⟩ ?_
                              rintro ρ ⟨z2, z9, z10, -⟩
                              refine rg (r (mv z10) (r (nt rfl) (re ?_)))
                              refine cd rfl (fun hok => ?_) (fun hok => ?_)
                              · have hL : lineV xs = badL := by rw [hL0, ← hl, if_neg (by simpa using hok)]
                                have b16 : B w14 g2 71 ([.int .i64 0, .int .i64 0, .string ⟨#[]⟩, .string ⟨#[]⟩, .int .i64 0, .slice none 0 0]) := Hold.blk H9 0 rfl
                                refine sq (rg (r (bd (r := [.int .i64 0, .int .i64 0, .string ⟨#[]⟩, .string ⟨#[]⟩, .int .i64 0, .slice none 0 0]) ti71 pl71 pn rfl) (ef0 (xst (vs := [.int .i64 0, .int .i64 0, .string ⟨#[]⟩, .string ⟨#[]⟩, .int .i64 0, .slice none 0 0]) ti71 z2 rfl rfl b16 rfl (Nat.le_of_ble_eq_true rfl) (one_all rfl)) ?_)))
                                rintro w17 ⟨-, b17, c17⟩
                                have H10 : Hold w [] w17 [rB g2 71 ([.int .i64 0, .int .i64 0, .string ⟨#[]⟩, .string ⟨#[]⟩, .int .i64 0, .slice none 0 0]), rR kStr 9 (.slice (some ⟨gv, 0, none⟩) fs.length fs.length) fs, rMS mp (parsersL pg2 pg3 pg4 pg5 pg6 pg7), rB pg2 2 ([.int .i64 2]), rB pg3 2 ([.int .i64 4]), rB pg4 2 ([.int .i64 5]), rB pg5 2 ([.int .i64 6]), rB pg6 2 ([.int .i64 7]), rB pg7 2 ([.int .i64 8]), rR i64 2 u l.ns, rB g9 71 ([.int .i64 l.kind, .int .i64 l.ck, .string l.nm, .string l.dt, .int .i64 l.sz, u])] := Hold.setB H9 0 rfl b17 c17 rfl
                                clear H9
                                clear b17 c17
                                refine re (rt ?_)
                                have H11 : Hold w [] w17 [rB g2 71 ([.int .i64 0, .int .i64 0, .string ⟨#[]⟩, .string ⟨#[]⟩, .int .i64 0, .slice none 0 0]), rR kStr 9 (.slice (some ⟨gv, 0, none⟩) fs.length fs.length) fs, rMS mp (parsersL pg2 pg3 pg4 pg5 pg6 pg7), rB pg2 2 ([.int .i64 2]), rB pg3 2 ([.int .i64 4]), rB pg4 2 ([.int .i64 5]), rB pg5 2 ([.int .i64 6]), rB pg6 2 ([.int .i64 7]), rB pg7 2 ([.int .i64 8]), rR i64 2 u l.ns, rB g9 71 ([.int .i64 l.kind, .int .i64 l.ck, .string l.nm, .string l.dt, .int .i64 l.sz, u]), rR i64 2 (.slice none 0 0) ([])] := Hold.nilrow i64 2 H10
                                clear H10
                                have b18 : B w17 g2 71 ([.int .i64 0, .int .i64 0, .string ⟨#[]⟩, .string ⟨#[]⟩, .int .i64 0, .slice none 0 0]) := Hold.blk H11 0 rfl
                                have H12 : Hold w [] w17 [rR i64 2 (.slice none 0 0) ([])] := (show Hold w [] w17 ([rR i64 2 (.slice none 0 0) ([])] ++ [rB g2 71 ([.int .i64 0, .int .i64 0, .string ⟨#[]⟩, .string ⟨#[]⟩, .int .i64 0, .slice none 0 0]), rR kStr 9 (.slice (some ⟨gv, 0, none⟩) fs.length fs.length) fs, rMS mp (parsersL pg2 pg3 pg4 pg5 pg6 pg7), rB pg2 2 ([.int .i64 2]), rB pg3 2 ([.int .i64 4]), rB pg4 2 ([.int .i64 5]), rB pg5 2 ([.int .i64 6]), rB pg6 2 ([.int .i64 7]), rB pg7 2 ([.int .i64 8]), rR i64 2 u l.ns, rB g9 71 ([.int .i64 l.kind, .int .i64 l.ck, .string l.nm, .string l.dt, .int .i64 l.sz, u])]) from Hold.re H11 [11, 0, 1, 2, 3, 4, 5, 6, 7, 8, 9, 10] (by kernel_rfl) (by rfl)).drop
                                clear H11
                                exact finc  (cs := [.int .i64 0, .int .i64 0, .string ⟨#[]⟩, .string ⟨#[]⟩, .int .i64 0, .slice none 0 0]) Tryd.results34 Tryd.underlying71 rfl ti71 z2 b18 rfl  ⟨_, by rw [hL], by rw [hL]; exact H12⟩
                              · have hL : lineV xs = l := by rw [hL0, ← hl, if_pos (by simpa using hok)]
                                have b16 : B w14 g9 71 ([.int .i64 l.kind, .int .i64 l.ck, .string l.nm, .string l.dt, .int .i64 l.sz, u]) := Hold.blk H9 10 rfl
                                have b17 : B w14 g2 71 ([.int .i64 0, .int .i64 0, .string ⟨#[]⟩, .string ⟨#[]⟩, .int .i64 0, .slice none 0 0]) := Hold.blk H9 0 rfl
                                obtain ⟨_, R19⟩ : ∃ F, Kd.R i64 w14 F u l.ns := Hold.row H9 9 rfl
                                refine sk (sq (rg (r (lab [.int .i64 l.kind, .int .i64 l.ck, .string l.nm, .string l.dt, .int .i64 l.sz, u] Tryd.underlying71 rfl ti71 z9 b16 rfl rfl) (ef0 (xst (vs := [.int .i64 l.kind, .int .i64 l.ck, .string l.nm, .string l.dt, .int .i64 l.sz, u]) ti71 z2 rfl rfl b17 rfl (Nat.le_of_ble_eq_true rfl) (oc rfl (oc rfl (oc rfl (oc rfl (oc rfl (oc (R19).oneCell on))))))) ?_))))
                                rintro w18 ⟨-, b18, c18⟩
                                have H10 : Hold w [] w18 [rB g2 71 ([.int .i64 l.kind, .int .i64 l.ck, .string l.nm, .string l.dt, .int .i64 l.sz, u]), rR kStr 9 (.slice (some ⟨gv, 0, none⟩) fs.length fs.length) fs, rMS mp (parsersL pg2 pg3 pg4 pg5 pg6 pg7), rB pg2 2 ([.int .i64 2]), rB pg3 2 ([.int .i64 4]), rB pg4 2 ([.int .i64 5]), rB pg5 2 ([.int .i64 6]), rB pg6 2 ([.int .i64 7]), rB pg7 2 ([.int .i64 8]), rR i64 2 u l.ns, rB g9 71 ([.int .i64 l.kind, .int .i64 l.ck, .string l.nm, .string l.dt, .int .i64 l.sz, u])] := Hold.setB H9 0 rfl b18 c18 rfl
                                clear H9
                                clear b18 c18
                                refine re (rt ?_)
                                have b20 : B w18 g2 71 ([.int .i64 l.kind, .int .i64 l.ck, .string l.nm, .string l.dt, .int .i64 l.sz, u]) := Hold.blk H10 0 rfl
                                have H11 : Hold w [] w18 [rR i64 2 u l.ns] := (show Hold w [] w18 ([rR i64 2 u l.ns] ++ [rB g2 71 ([.int .i64 l.kind, .int .i64 l.ck, .string l.nm, .string l.dt, .int .i64 l.sz, u]), rR kStr 9 (.slice (some ⟨gv, 0, none⟩) fs.length fs.length) fs, rMS mp (parsersL pg2 pg3 pg4 pg5 pg6 pg7), rB pg2 2 ([.int .i64 2]), rB pg3 2 ([.int .i64 4]), rB pg4 2 ([.int .i64 5]), rB pg5 2 ([.int .i64 6]), rB pg6 2 ([.int .i64 7]), rB pg7 2 ([.int .i64 8]), rB g9 71 ([.int .i64 l.kind, .int .i64 l.ck, .string l.nm, .string l.dt, .int .i64 l.sz, u])]) from Hold.re H10 [9, 0, 1, 2, 3, 4, 5, 6, 7, 8, 10] (by kernel_rfl) (by rfl)).drop
                                clear H10
                                exact finc  (cs := [.int .i64 l.kind, .int .i64 l.ck, .string l.nm, .string l.dt, .int .i64 l.sz, u]) Tryd.results34 Tryd.underlying71 rfl ti71 z2 b20 rfl  ⟨u, by rw [hL], by rw [hL]; exact H11⟩
                            · have hn_crash := hk
                              by_cases hk : f0 = kFlip
                              · refine sq ?_
                                refine rde mixed ?_
                                intro w4 c4
                                have H4 : Hold w [] w4 [rB g2 71 ([.int .i64 0, .int .i64 0, .string ⟨#[]⟩, .string ⟨#[]⟩, .int .i64 0, .slice none 0 0]), rR kStr 9 (.slice (some ⟨gv, 0, none⟩) fs.length fs.length) fs] := Hold.t H3 c4
                                clear H3
                                clear c4
                                have H5d0 : Hold w4 [] w4 [] := Hold.start w4
                                refine ⟨fun w' => Ch [] w4 w', Ch.refl _ _, ?_⟩
                                obtain ⟨_, R6⟩ : ∃ F, Kd.R kStr w4 F (.slice (some ⟨gv, 0, none⟩) fs.length fs.length) fs := Hold.row H4 1 rfl
                                refine edt 1 rfl (by kernel_rfl) (fun w' hS => mv y3) ?_
                                obtain ⟨c48_7, ad48_7, k48_7, e48_7, p48_7⟩ := Kd.R.place R6 0 ((by omega))
                                refine edt 2 rfl (by kernel_rfl) (fun w' hS => ix (j := 0) Tryd.underlying54 ti9 e48_7 rfl ((by omega))) (edt 3 rfl (by kernel_rfl) (fun w' hS => Rn.cast (v' := .string (⟨#[102, 108, 105, 112]⟩ : ByteArray)) (ld Tryd.underlying9 rfl rfl (Ch.cell hS p48_7.cell)) (congrArg Value.string ((gd _).trans (hf0.symm.trans hk)))) (ed1 0 (by kernel_rfl) <| euc rfl go79 an (parsers) ?_))
                                rintro r wp ⟨mp, pg2, pg3, pg4, pg5, pg6, pg7, rfl, Hp⟩
                                have H5d : Hold w4 [] wp [rMS mp (parsersL pg2 pg3 pg4 pg5 pg6 pg7), rB pg2 2 ([.int .i64 2]), rB pg3 2 ([.int .i64 4]), rB pg4 2 ([.int .i64 5]), rB pg5 2 ([.int .i64 6]), rB pg6 2 ([.int .i64 7]), rB pg7 2 ([.int .i64 8])] := Hold.news H5d0 Hp
                                clear H5d0
                                clear Hp
                                refine ⟨.inr (Hold.ch H5d), ?_⟩
                                refine ed1 4 (by kernel_rfl) <| eur rfl (Rn.cast (v' := .tuple #[.func (.func 114) #[] #[], .bool true]) (lkps Tryd.underlying121 Tryd.underlying9 ti119 rfl rfl (Hold.mps (g := mp) H5d 0 rfl)) (by simp [lookS, parsersL])) (.inr (Hold.ch H5d)) ?_
                                refine edt 5 rfl (by kernel_rfl) (fun w' hS => mv rfl) (edt 6 rfl (by kernel_rfl) (fun w' hS => xt rfl rfl) (edt 7 rfl (by kernel_rfl) (fun w' hS => xt rfl rfl) (edt 8 rfl (by kernel_rfl) (fun w' hS => sa rfl) ?_)))
                                have H6 : Hold w [] wp [rB g2 71 ([.int .i64 0, .int .i64 0, .string ⟨#[]⟩, .string ⟨#[]⟩, .int .i64 0, .slice none 0 0]), rR kStr 9 (.slice (some ⟨gv, 0, none⟩) fs.length fs.length) fs, rMS mp (parsersL pg2 pg3 pg4 pg5 pg6 pg7), rB pg2 2 ([.int .i64 2]), rB pg3 2 ([.int .i64 4]), rB pg4 2 ([.int .i64 5]), rB pg5 2 ([.int .i64 6]), rB pg6 2 ([.int .i64 7]), rB pg7 2 ([.int .i64 8])] := Hold.news H4 H5d
                                clear H5d H4
                                refine ed1 9 (by kernel_rfl) <| eur rfl (sa rfl) (.inl (by kernel_rfl)) ?_
                                refine edd (by kernel_rfl) ?_
                                refine sq (sq ?_)
                                refine gen (fun ρ => ρ 2 = .pointer (some ⟨g2, 0, none⟩) ∧ ρ 3 = .slice (some ⟨gv, 0, none⟩) fs.length fs.length ∧ ρ 7 = .func (.func 114) #[] #[] ∧ ρ 8 = .bool true ∧ True) ⟨y2, y3, rfl, rfl, trivial⟩ ?_
                                rintro ρ ⟨z2, z3, z7, z8, -⟩
                                obtain ⟨_, R9⟩ : ∃ F, Kd.R kStr wp F (.slice (some ⟨gv, 0, none⟩) fs.length fs.length) fs := Hold.row H6 1 rfl
                                refine rg (r (mv z8) (r (nt rfl) (re (cf rfl (sk (sq (rg (r (mv z7) (r (mv z3) ?_)))))))))
                                have hL0 : lineV xs = lineF (kFlip :: fs.drop 1) := hk ▸ hV0
                                obtain ⟨F11, us11, R11⟩ := Kd.R.sl R9 (1) (fs.length) (by first | omega | (simp; omega)) (by first | omega | (simp; omega))
                                have e11 : (fs.take fs.length).drop 1 = fs.drop 1 := by first | (rw [List.take_length, List.drop_drop]; done) | (rw [List.drop_take]; done) | (simp; done) | (rw [List.drop_take]; congr 1; omega) | (rw [List.take_length, List.drop_drop]; congr 1; omega)
                                rw [e11] at R11
                                refine r (slrl (1) Tryd.underlying54 ti9 R9 rfl rfl (by omega)) (clv rfl go114 (ac rfl an) (parseFlip R11 lgs) ?_)
                                rintro r wq ⟨l, okb, u, rfl, hl, Hq⟩
                                have H7 : Hold w [] wq [rB g2 71 ([.int .i64 0, .int .i64 0, .string ⟨#[]⟩, .string ⟨#[]⟩, .int .i64 0, .slice none 0 0]), rR kStr 9 (.slice (some ⟨gv, 0, none⟩) fs.length fs.length) fs, rMS mp (parsersL pg2 pg3 pg4 pg5 pg6 pg7), rB pg2 2 ([.int .i64 2]), rB pg3 2 ([.int .i64 4]), rB pg4 2 ([.int .i64 5]), rB pg5 2 ([.int .i64 6]), rB pg6 2 ([.int .i64 7]), rB pg7 2 ([.int .i64 8]), rR i64 2 u l.ns] := Hold.news H6 Hq
                                clear H6
                                clear Hq
                                refine r (mv rfl) (r (xt rfl rfl) (r (xt rfl rfl) (ef (xal ti71) ?_)))
                                rintro _ w12 ⟨g9, e12, rfl, -, b12, c12⟩
                                have H8 : Hold w [] w12 [rB g2 71 ([.int .i64 0, .int .i64 0, .string ⟨#[]⟩, .string ⟨#[]⟩, .int .i64 0, .slice none 0 0]), rR kStr 9 (.slice (some ⟨gv, 0, none⟩) fs.length fs.length) fs, rMS mp (parsersL pg2 pg3 pg4 pg5 pg6 pg7), rB pg2 2 ([.int .i64 2]), rB pg3 2 ([.int .i64 4]), rB pg4 2 ([.int .i64 5]), rB pg5 2 ([.int .i64 6]), rB pg6 2 ([.int .i64 7]), rB pg7 2 ([.int .i64 8]), rR i64 2 u l.ns, rB g9 71 ([.int .i64 0, .int .i64 0, .string ⟨#[]⟩, .string ⟨#[]⟩, .int .i64 0, .slice none 0 0])] := Hold.newB H7 e12 b12 c12
                                clear H7
                                clear e12 b12 c12
                                have b13 : B w12 g9 71 ([.int .i64 0, .int .i64 0, .string ⟨#[]⟩, .string ⟨#[]⟩, .int .i64 0, .slice none 0 0]) := Hold.blk H8 10 rfl
                                obtain ⟨_, R15⟩ : ∃ F, Kd.R i64 w12 F u l.ns := Hold.row H8 9 rfl
                                refine ef0 (xst (vs := [.int .i64 l.kind, .int .i64 l.ck, .string l.nm, .string l.dt, .int .i64 l.sz, u]) ti71 rfl rfl rfl b13 rfl (Nat.le_of_ble_eq_true rfl) (oc rfl (oc rfl (oc rfl (oc rfl (oc rfl (oc (R15).oneCell on))))))) ?_
                                rintro w14 ⟨-, b14, c14⟩
                                have H9 : Hold w [] w14 [rB g2 71 ([.int .i64 0, .int .i64 0, .string ⟨#[]⟩, .string ⟨#[]⟩, .int .i64 0, .slice none 0 0]), rR kStr 9 (.slice (some ⟨gv, 0, none⟩) fs.length fs.length) fs, rMS mp (parsersL pg2 pg3 pg4 pg5 pg6 pg7), rB pg2 2 ([.int .i64 2]), rB pg3 2 ([.int .i64 4]), rB pg4 2 ([.int .i64 5]), rB pg5 2 ([.int .i64 6]), rB pg6 2 ([.int .i64 7]), rB pg7 2 ([.int .i64 8]), rR i64 2 u l.ns, rB g9 71 ([.int .i64 l.kind, .int .i64 l.ck, .string l.nm, .string l.dt, .int .i64 l.sz, u])] := Hold.setB H8 10 rfl b14 c14 rfl
                                clear H8
                                clear b14 c14
                                refine r (sa rfl) (re (sq (sq ?_)))
                                refine gen (fun ρ => ρ 2 = .pointer (some ⟨g2, 0, none⟩) ∧ ρ 9 = .pointer (some ⟨g9, 0, none⟩) ∧ ρ 10 = .bool okb ∧ True) ⟨z2, rfl, rfl, trivial⟩ ?_
                                rintro ρ ⟨z2, z9, z10, -⟩
                                refine rg (r (mv z10) (r (nt rfl) (re ?_)))
                                refine cd rfl (fun hok => ?_) (fun hok => ?_)
                                · have hL : lineV xs = badL := by rw [hL0, ← hl, if_neg (by simpa using hok)]
                                  have b16 : B w14 g2 71 ([.int .i64 0, .int .i64 0, .string ⟨#[]⟩, .string ⟨#[]⟩, .int .i64 0, .slice none 0 0]) := Hold.blk H9 0 rfl
                                  refine sq (rg (r (bd (r := [.int .i64 0, .int .i64 0, .string ⟨#[]⟩, .string ⟨#[]⟩, .int .i64 0, .slice none 0 0]) ti71 pl71 pn rfl) (ef0 (xst (vs := [.int .i64 0, .int .i64 0, .string ⟨#[]⟩, .string ⟨#[]⟩, .int .i64 0, .slice none 0 0]) ti71 z2 rfl rfl b16 rfl (Nat.le_of_ble_eq_true rfl) (one_all rfl)) ?_)))
                                  rintro w17 ⟨-, b17, c17⟩
                                  have H10 : Hold w [] w17 [rB g2 71 ([.int .i64 0, .int .i64 0, .string ⟨#[]⟩, .string ⟨#[]⟩, .int .i64 0, .slice none 0 0]), rR kStr 9 (.slice (some ⟨gv, 0, none⟩) fs.length fs.length) fs, rMS mp (parsersL pg2 pg3 pg4 pg5 pg6 pg7), rB pg2 2 ([.int .i64 2]), rB pg3 2 ([.int .i64 4]), rB pg4 2 ([.int .i64 5]), rB pg5 2 ([.int .i64 6]), rB pg6 2 ([.int .i64 7]), rB pg7 2 ([.int .i64 8]), rR i64 2 u l.ns, rB g9 71 ([.int .i64 l.kind, .int .i64 l.ck, .string l.nm, .string l.dt, .int .i64 l.sz, u])] := Hold.setB H9 0 rfl b17 c17 rfl
                                  clear H9
                                  clear b17 c17
                                  refine re (rt ?_)
                                  have H11 : Hold w [] w17 [rB g2 71 ([.int .i64 0, .int .i64 0, .string ⟨#[]⟩, .string ⟨#[]⟩, .int .i64 0, .slice none 0 0]), rR kStr 9 (.slice (some ⟨gv, 0, none⟩) fs.length fs.length) fs, rMS mp (parsersL pg2 pg3 pg4 pg5 pg6 pg7), rB pg2 2 ([.int .i64 2]), rB pg3 2 ([.int .i64 4]), rB pg4 2 ([.int .i64 5]), rB pg5 2 ([.int .i64 6]), rB pg6 2 ([.int .i64 7]), rB pg7 2 ([.int .i64 8]), rR i64 2 u l.ns, rB g9 71 ([.int .i64 l.kind, .int .i64 l.ck, .string l.nm, .string l.dt, .int .i64 l.sz, u]), rR i64 2 (.slice none 0 0) ([])] := Hold.nilrow i64 2 H10
                                  clear H10
                                  have b18 : B w17 g2 71 ([.int .i64 0, .int .i64 0, .string ⟨#[]⟩, .string ⟨#[]⟩, .int .i64 0, .slice none 0 0]) := Hold.blk H11 0 rfl
                                  have H12 : Hold w [] w17 [rR i64 2 (.slice none 0 0) ([])] := (show Hold w [] w17 ([rR i64 2 (.slice none 0 0) ([])] ++ [rB g2 71 ([.int .i64 0, .int .i64 0, .string ⟨#[]⟩, .string ⟨#[]⟩, .int .i64 0, .slice none 0 0]), rR kStr 9 (.slice (some ⟨gv, 0, none⟩) fs.length fs.length) fs, rMS mp (parsersL pg2 pg3 pg4 pg5 pg6 pg7), rB pg2 2 ([.int .i64 2]), rB pg3 2 ([.int .i64 4]), rB pg4 2 ([.int .i64 5]), rB pg5 2 ([.int .i64 6]), rB pg6 2 ([.int .i64 7]), rB pg7 2 ([.int .i64 8]), rR i64 2 u l.ns, rB g9 71 ([.int .i64 l.kind, .int .i64 l.ck, .string l.nm, .string l.dt, .int .i64 l.sz, u])]) from Hold.re H11 [11, 0, 1, 2, 3, 4, 5, 6, 7, 8, 9, 10] (by kernel_rfl) (by rfl)).drop
                                  clear H11
                                  exact finc  (cs := [.int .i64 0, .int .i64 0, .string ⟨#[]⟩, .string ⟨#[]⟩, .int .i64 0, .slice none 0 0]) Tryd.results34 Tryd.underlying71 rfl ti71 z2 b18 rfl  ⟨_, by rw [hL], by rw [hL]; exact H12⟩
                                · have hL : lineV xs = l := by rw [hL0, ← hl, if_pos (by simpa using hok)]
                                  have b16 : B w14 g9 71 ([.int .i64 l.kind, .int .i64 l.ck, .string l.nm, .string l.dt, .int .i64 l.sz, u]) := Hold.blk H9 10 rfl
                                  have b17 : B w14 g2 71 ([.int .i64 0, .int .i64 0, .string ⟨#[]⟩, .string ⟨#[]⟩, .int .i64 0, .slice none 0 0]) := Hold.blk H9 0 rfl
                                  obtain ⟨_, R19⟩ : ∃ F, Kd.R i64 w14 F u l.ns := Hold.row H9 9 rfl
                                  refine sk (sq (rg (r (lab [.int .i64 l.kind, .int .i64 l.ck, .string l.nm, .string l.dt, .int .i64 l.sz, u] Tryd.underlying71 rfl ti71 z9 b16 rfl rfl) (ef0 (xst (vs := [.int .i64 l.kind, .int .i64 l.ck, .string l.nm, .string l.dt, .int .i64 l.sz, u]) ti71 z2 rfl rfl b17 rfl (Nat.le_of_ble_eq_true rfl) (oc rfl (oc rfl (oc rfl (oc rfl (oc rfl (oc (R19).oneCell on))))))) ?_))))
                                  rintro w18 ⟨-, b18, c18⟩
                                  have H10 : Hold w [] w18 [rB g2 71 ([.int .i64 l.kind, .int .i64 l.ck, .string l.nm, .string l.dt, .int .i64 l.sz, u]), rR kStr 9 (.slice (some ⟨gv, 0, none⟩) fs.length fs.length) fs, rMS mp (parsersL pg2 pg3 pg4 pg5 pg6 pg7), rB pg2 2 ([.int .i64 2]), rB pg3 2 ([.int .i64 4]), rB pg4 2 ([.int .i64 5]), rB pg5 2 ([.int .i64 6]), rB pg6 2 ([.int .i64 7]), rB pg7 2 ([.int .i64 8]), rR i64 2 u l.ns, rB g9 71 ([.int .i64 l.kind, .int .i64 l.ck, .string l.nm, .string l.dt, .int .i64 l.sz, u])] := Hold.setB H9 0 rfl b18 c18 rfl
                                  clear H9
                                  clear b18 c18
                                  refine re (rt ?_)
                                  have b20 : B w18 g2 71 ([.int .i64 l.kind, .int .i64 l.ck, .string l.nm, .string l.dt, .int .i64 l.sz, u]) := Hold.blk H10 0 rfl
                                  have H11 : Hold w [] w18 [rR i64 2 u l.ns] := (show Hold w [] w18 ([rR i64 2 u l.ns] ++ [rB g2 71 ([.int .i64 l.kind, .int .i64 l.ck, .string l.nm, .string l.dt, .int .i64 l.sz, u]), rR kStr 9 (.slice (some ⟨gv, 0, none⟩) fs.length fs.length) fs, rMS mp (parsersL pg2 pg3 pg4 pg5 pg6 pg7), rB pg2 2 ([.int .i64 2]), rB pg3 2 ([.int .i64 4]), rB pg4 2 ([.int .i64 5]), rB pg5 2 ([.int .i64 6]), rB pg6 2 ([.int .i64 7]), rB pg7 2 ([.int .i64 8]), rB g9 71 ([.int .i64 l.kind, .int .i64 l.ck, .string l.nm, .string l.dt, .int .i64 l.sz, u])]) from Hold.re H10 [9, 0, 1, 2, 3, 4, 5, 6, 7, 8, 10] (by kernel_rfl) (by rfl)).drop
                                  clear H10
                                  exact finc  (cs := [.int .i64 l.kind, .int .i64 l.ck, .string l.nm, .string l.dt, .int .i64 l.sz, u]) Tryd.results34 Tryd.underlying71 rfl ti71 z2 b20 rfl  ⟨u, by rw [hL], by rw [hL]; exact H11⟩
                              · have hn_flip := hk
                                refine sq ?_
                                refine rde mixed ?_
                                intro w4 c4
                                have H4 : Hold w [] w4 [rB g2 71 ([.int .i64 0, .int .i64 0, .string ⟨#[]⟩, .string ⟨#[]⟩, .int .i64 0, .slice none 0 0]), rR kStr 9 (.slice (some ⟨gv, 0, none⟩) fs.length fs.length) fs] := Hold.t H3 c4
                                clear H3
                                clear c4
                                have H5d0 : Hold w4 [] w4 [] := Hold.start w4
                                refine ⟨fun w' => Ch [] w4 w', Ch.refl _ _, ?_⟩
                                obtain ⟨_, R6⟩ : ∃ F, Kd.R kStr w4 F (.slice (some ⟨gv, 0, none⟩) fs.length fs.length) fs := Hold.row H4 1 rfl
                                refine edt 1 rfl (by kernel_rfl) (fun w' hS => mv y3) ?_
                                obtain ⟨c48_7, ad48_7, k48_7, e48_7, p48_7⟩ := Kd.R.place R6 0 ((by omega))
                                refine edt 2 rfl (by kernel_rfl) (fun w' hS => ix (j := 0) Tryd.underlying54 ti9 e48_7 rfl ((by omega))) (edt 3 rfl (by kernel_rfl) (fun w' hS => Rn.cast (v' := .string f0) (ld Tryd.underlying9 rfl rfl (Ch.cell hS p48_7.cell)) (congrArg Value.string ((gd _).trans hf0.symm))) (ed1 0 (by kernel_rfl) <| euc rfl go79 an (parsers) ?_))
                                rintro r wp ⟨mp, pg2, pg3, pg4, pg5, pg6, pg7, rfl, Hp⟩
                                have H5d : Hold w4 [] wp [rMS mp (parsersL pg2 pg3 pg4 pg5 pg6 pg7), rB pg2 2 ([.int .i64 2]), rB pg3 2 ([.int .i64 4]), rB pg4 2 ([.int .i64 5]), rB pg5 2 ([.int .i64 6]), rB pg6 2 ([.int .i64 7]), rB pg7 2 ([.int .i64 8])] := Hold.news H5d0 Hp
                                clear H5d0
                                clear Hp
                                refine ⟨.inr (Hold.ch H5d), ?_⟩
                                refine ed1 4 (by kernel_rfl) <| eur rfl (Rn.cast (v' := .tuple #[.nilFunc, .bool false]) (lkps Tryd.underlying121 Tryd.underlying9 ti119 rfl rfl (Hold.mps (g := mp) H5d 0 rfl)) (by simp [lookS, parsersL, hn_write, hn_read, hn_del, hn_list, hn_sync, hn_clean, hn_stat, hn_fill, hn_trunc, hn_mount, hn_arm, hn_crash, hn_flip])) (.inr (Hold.ch H5d)) ?_
                                refine edt 5 rfl (by kernel_rfl) (fun w' hS => mv rfl) (edt 6 rfl (by kernel_rfl) (fun w' hS => xt rfl rfl) (edt 7 rfl (by kernel_rfl) (fun w' hS => xt rfl rfl) (edt 8 rfl (by kernel_rfl) (fun w' hS => sa rfl) ?_)))
                                have H6 : Hold w [] wp [rB g2 71 ([.int .i64 0, .int .i64 0, .string ⟨#[]⟩, .string ⟨#[]⟩, .int .i64 0, .slice none 0 0]), rR kStr 9 (.slice (some ⟨gv, 0, none⟩) fs.length fs.length) fs, rMS mp (parsersL pg2 pg3 pg4 pg5 pg6 pg7), rB pg2 2 ([.int .i64 2]), rB pg3 2 ([.int .i64 4]), rB pg4 2 ([.int .i64 5]), rB pg5 2 ([.int .i64 6]), rB pg6 2 ([.int .i64 7]), rB pg7 2 ([.int .i64 8])] := Hold.news H4 H5d
                                clear H5d H4
                                refine ed1 9 (by kernel_rfl) <| eur rfl (sa rfl) (.inl (by kernel_rfl)) ?_
                                refine edd (by kernel_rfl) ?_
                                refine sq (sq ?_)
                                refine gen (fun ρ => ρ 2 = .pointer (some ⟨g2, 0, none⟩) ∧ ρ 3 = .slice (some ⟨gv, 0, none⟩) fs.length fs.length ∧ ρ 7 = .nilFunc ∧ ρ 8 = .bool false ∧ True) ⟨y2, y3, rfl, rfl, trivial⟩ ?_
                                rintro ρ ⟨z2, z3, z7, z8, -⟩
                                have b9 : B wp g2 71 ([.int .i64 0, .int .i64 0, .string ⟨#[]⟩, .string ⟨#[]⟩, .int .i64 0, .slice none 0 0]) := Hold.blk H6 0 rfl
                                refine rg (r (mv z8) (r (nt rfl) (re (ct rfl (sq (rg (r (bd (r := [.int .i64 0, .int .i64 0, .string ⟨#[]⟩, .string ⟨#[]⟩, .int .i64 0, .slice none 0 0]) ti71 pl71 pn rfl) (ef0 (xst (vs := [.int .i64 0, .int .i64 0, .string ⟨#[]⟩, .string ⟨#[]⟩, .int .i64 0, .slice none 0 0]) ti71 z2 rfl rfl b9 rfl (Nat.le_of_ble_eq_true rfl) (one_all rfl)) ?_))))))))
                                rintro w10 ⟨-, b10, c10⟩
                                have H7 : Hold w [] w10 [rB g2 71 ([.int .i64 0, .int .i64 0, .string ⟨#[]⟩, .string ⟨#[]⟩, .int .i64 0, .slice none 0 0]), rR kStr 9 (.slice (some ⟨gv, 0, none⟩) fs.length fs.length) fs, rMS mp (parsersL pg2 pg3 pg4 pg5 pg6 pg7), rB pg2 2 ([.int .i64 2]), rB pg3 2 ([.int .i64 4]), rB pg4 2 ([.int .i64 5]), rB pg5 2 ([.int .i64 6]), rB pg6 2 ([.int .i64 7]), rB pg7 2 ([.int .i64 8])] := Hold.setB H6 0 rfl b10 c10 rfl
                                clear H6
                                clear b10 c10
                                refine re (rt ?_)
                                have hL : lineV xs = badL := hV0.trans (lf_other _ ⟨hn_write, hn_read, hn_del, hn_list, hn_sync, hn_clean, hn_stat, hn_fill, hn_trunc⟩ ⟨hn_mount, hn_arm, hn_crash, hn_flip⟩)
                                have H8 : Hold w [] w10 [rB g2 71 ([.int .i64 0, .int .i64 0, .string ⟨#[]⟩, .string ⟨#[]⟩, .int .i64 0, .slice none 0 0]), rR kStr 9 (.slice (some ⟨gv, 0, none⟩) fs.length fs.length) fs, rMS mp (parsersL pg2 pg3 pg4 pg5 pg6 pg7), rB pg2 2 ([.int .i64 2]), rB pg3 2 ([.int .i64 4]), rB pg4 2 ([.int .i64 5]), rB pg5 2 ([.int .i64 6]), rB pg6 2 ([.int .i64 7]), rB pg7 2 ([.int .i64 8]), rR i64 2 (.slice none 0 0) ([])] := Hold.nilrow i64 2 H7
                                clear H7
                                have b11 : B w10 g2 71 ([.int .i64 0, .int .i64 0, .string ⟨#[]⟩, .string ⟨#[]⟩, .int .i64 0, .slice none 0 0]) := Hold.blk H8 0 rfl
                                have H9 : Hold w [] w10 [rR i64 2 (.slice none 0 0) ([])] := (show Hold w [] w10 ([rR i64 2 (.slice none 0 0) ([])] ++ [rB g2 71 ([.int .i64 0, .int .i64 0, .string ⟨#[]⟩, .string ⟨#[]⟩, .int .i64 0, .slice none 0 0]), rR kStr 9 (.slice (some ⟨gv, 0, none⟩) fs.length fs.length) fs, rMS mp (parsersL pg2 pg3 pg4 pg5 pg6 pg7), rB pg2 2 ([.int .i64 2]), rB pg3 2 ([.int .i64 4]), rB pg4 2 ([.int .i64 5]), rB pg5 2 ([.int .i64 6]), rB pg6 2 ([.int .i64 7]), rB pg7 2 ([.int .i64 8])]) from Hold.re H8 [9, 0, 1, 2, 3, 4, 5, 6, 7, 8] (by kernel_rfl) (by rfl)).drop
                                clear H8
                                exact finc  (cs := [.int .i64 0, .int .i64 0, .string ⟨#[]⟩, .string ⟨#[]⟩, .int .i64 0, .slice none 0 0]) Tryd.results34 Tryd.underlying71 rfl ti71 z2 b11 rfl  ⟨_, by rw [hL], by rw [hL]; exact H9⟩
end Go.Proofs.YtgpcanjmgdmdhaaDoor

namespace Go.Proofs.YtgpcanjmgdmdhaaDoor
open Go Go.Eng
set_option maxRecDepth 100000
set_option maxHeartbeats 4000000
set_option linter.unusedVariables false
set_option linter.unusedSimpArgs false
theorem ok8_wp {xs : List Int} (h : ∀ x, x ∈ xs → (Lit.int .u8 x).wf = true) : ok8 xs := fun x hx => by
  have := h x hx
  simp [Lit.wf, IntKind.min, IntKind.max, IntKind.signed, IntKind.bits] at this
  omega
theorem vals_len (fs : List ByteArray) : (vals fs).length = fs.length := List.length_map ..
theorem lineF_ns (fs : List ByteArray) : (lineF fs).ns.length ≤ fs.length := by
  have h : ∀ k, (vals (fs.drop k)).length ≤ fs.length := fun k => by rw [vals_len, List.length_drop]; omega
  unfold lineF
  split
  · rw [callV_ns]; simp
  · repeat' (first | exact h _ | (simp; done) | split)
theorem lineV_ns (xs : List Int) : (lineV xs).ns.length ≤ 60001 := by
  unfold lineV; split
  · simp
  · split
    · simp
    · have h1 := lineF_ns (fieldsF xs)
      have h2 := cutF_len xs
      have h3 : (fieldsF xs).length ≤ (cutF xs).length := by unfold fieldsF; split <;> simp
      omega
theorem eqCall {w : World} {pc pz : Int} {pn pd : ByteArray} {qc qz : Int} {qn qd : ByteArray} : Ret Tryd.prog 80 #[.agg #[.int .i64 pc, .string pn, .string pd, .int .i64 pz], .agg #[.int .i64 qc, .string qn, .string qd, .int .i64 qz]] w (fun r w' => r = .bool (decide ((pc, pn, pd, pz) = (qc, qn, qd, qz))) ∧ Ch [] w w') := by
  refine enter Tryd.func80 rfl Tryd.ntmps80 (by rfl) (by rfl) ?_
  have H0 : Hold w [] w [] := Hold.start w
  refine sq (rg (ef (xbx (t := 62) rfl rfl) ?_))
  rintro _ w1 ⟨g2, e1, rfl, -, b1, c1⟩
  have H1 : Hold w [] w1 [rB g2 62 ([.int .i64 pc, .string pn, .string pd, .int .i64 pz])] := Hold.newB H0 e1 b1 c1
  clear H0
  clear e1 b1 c1
  refine ef (xbx (t := 62) rfl rfl) ?_
  rintro _ w2 ⟨g3, e2, rfl, -, b2, c2⟩
  have H2 : Hold w [] w2 [rB g2 62 ([.int .i64 pc, .string pn, .string pd, .int .i64 pz]), rB g3 62 ([.int .i64 qc, .string qn, .string qd, .int .i64 qz])] := Hold.newB H1 e2 b2 c2
  clear H1
  clear e2 b2 c2
  have b3 : B w2 g2 62 ([.int .i64 pc, .string pn, .string pd, .int .i64 pz]) := Hold.blk H2 0 rfl
  have b4 : B w2 g3 62 ([.int .i64 qc, .string qn, .string qd, .int .i64 qz]) := Hold.blk H2 1 rfl
  refine r (sa rfl) (re (sq (sq (rg (r (fa Tryd.underlying62 rfl ti2 rfl rfl) (r (ldb Tryd.underlying2 rfl rfl b3 rfl) (r (fa Tryd.underlying62 rfl ti2 rfl rfl) (r (ldb Tryd.underlying2 rfl rfl b4 rfl) (r (bi rfl rfl rfl) (re ?_))))))))))
  refine cpn rfl (fun h0 => ?_) (fun h0 => ?_)
  · refine sq (rg (r (sa rfl) (re (rt ?_))))
    exact fin1 (v := .bool false) Tryd.results80 rfl ⟨congrArg Value.bool (decide_eq_false (fun e => h0 (by simp only [Prod.mk.injEq] at e; exact e.1))).symm, Hold.ch H2⟩
  · refine sk (sq (sq (rg (r (fa Tryd.underlying62 rfl ti9 rfl rfl) (r (ldb Tryd.underlying9 rfl rfl b3 rfl) (r (fa Tryd.underlying62 rfl ti9 rfl rfl) (r (ldb Tryd.underlying9 rfl rfl b4 rfl) (r (sne rfl rfl) (re ?_)))))))))
    refine cpn rfl (fun h1 => ?_) (fun h1 => ?_)
    · refine sq ?_
      refine gen (fun ρ => ρ 2 = .pointer (some ⟨g2, 0, none⟩) ∧ ρ 3 = .pointer (some ⟨g3, 0, none⟩) ∧ ρ 4 = .bool false ∧ True) ⟨rfl, rfl, rfl, trivial⟩ ?_
      rintro ρ ⟨z2, z3, z4, -⟩
      refine rg (r (sa rfl) (re (rt ?_)))
      exact fin1 (v := .bool false) Tryd.results80 rfl ⟨congrArg Value.bool (decide_eq_false (fun e => h1 (by simp only [Prod.mk.injEq] at e; exact e.2.1))).symm, Hold.ch H2⟩
    · refine sk (sq (sq ?_))
      refine gen (fun ρ => ρ 2 = .pointer (some ⟨g2, 0, none⟩) ∧ ρ 3 = .pointer (some ⟨g3, 0, none⟩) ∧ ρ 4 = .bool false ∧ True) ⟨rfl, rfl, rfl, trivial⟩ ?_
      rintro ρ ⟨z2, z3, z4, -⟩
      refine rg (r (fa Tryd.underlying62 rfl ti9 rfl z2) (r (ldb Tryd.underlying9 rfl rfl b3 rfl) (r (fa Tryd.underlying62 rfl ti9 rfl z3) (r (ldb Tryd.underlying9 rfl rfl b4 rfl) (r (sne rfl rfl) (re ?_))))))
      refine cpn rfl (fun h2 => ?_) (fun h2 => ?_)
      · refine sq (rg (r (sa rfl) (re (rt ?_))))
        exact fin1 (v := .bool false) Tryd.results80 rfl ⟨congrArg Value.bool (decide_eq_false (fun e => h2 (by simp only [Prod.mk.injEq] at e; exact e.2.2.1))).symm, Hold.ch H2⟩
      · refine sk (sq (sq (rg (r (fa Tryd.underlying62 rfl ti2 rfl z2) (r (ldb Tryd.underlying2 rfl rfl b3 rfl) (r (fa Tryd.underlying62 rfl ti2 rfl z3) (r (ldb Tryd.underlying2 rfl rfl b4 rfl) (r (bi rfl rfl rfl) (re ?_)))))))))
        refine cpn rfl (fun h3 => ?_) (fun h3 => ?_)
        · refine sq ?_
          refine gen (fun ρ => ρ 4 = .bool false ∧ True) ⟨z4, trivial⟩ ?_
          rintro ρ ⟨z4, -⟩
          refine rg (r (sa rfl) (re (rt ?_)))
          exact fin1 (v := .bool false) Tryd.results80 rfl ⟨congrArg Value.bool (decide_eq_false (fun e => h3 (by simp only [Prod.mk.injEq] at e; exact e.2.2.2))).symm, Hold.ch H2⟩
        · refine sk (sq ?_)
          refine gen (fun ρ => ρ 4 = .bool false ∧ True) ⟨z4, trivial⟩ ?_
          rintro ρ ⟨z4, -⟩
          refine rg (r (sa rfl) (re (rt ?_)))
          exact fin1 (v := .bool true) Tryd.results80 rfl ⟨congrArg Value.bool (decide_eq_true (by simp only [Prod.mk.injEq]; exact ⟨by simpa using h0, by simpa using h1, by simpa using h2, by simpa using h3⟩)).symm, Hold.ch H2⟩
theorem eqLine {w : World} {F G : List Nat} {pu qu : Value} {xs ys : List Int} {pk pc pz : Int} {pn pd : ByteArray} {qk qc qz : Int} {qn qd : ByteArray} (hx : i64.R w F pu xs) (hy : i64.R w G qu ys) (lx : xs.length ≤ 1000000000) : Ret Tryd.prog 35 #[.agg #[.int .i64 pk, .int .i64 pc, .string pn, .string pd, .int .i64 pz, pu], .agg #[.int .i64 qk, .int .i64 qc, .string qn, .string qd, .int .i64 qz, qu]] w (fun r w' => r = .bool (decide ((pk, (pc, pn, pd, pz), xs) = (qk, (qc, qn, qd, qz), ys))) ∧ Ch [] w w') := by
  refine enter Tryd.func35 rfl Tryd.ntmps35 (by rfl) (by rfl) ?_
  have H0 : Hold w [] w [] := Hold.start w
  refine sq (rg (ef (xbx (t := 71) rfl rfl) ?_))
  rintro _ w1 ⟨g2, e1, rfl, -, b1, c1⟩
  have H1 : Hold w [] w1 [rB g2 71 ([.int .i64 pk, .int .i64 pc, .string pn, .string pd, .int .i64 pz, pu])] := Hold.newB H0 e1 b1 c1
  clear H0
  clear e1 b1 c1
  refine ef (xbx (t := 71) rfl rfl) ?_
  rintro _ w2 ⟨g3, e2, rfl, -, b2, c2⟩
  have H2 : Hold w [] w2 [rB g2 71 ([.int .i64 pk, .int .i64 pc, .string pn, .string pd, .int .i64 pz, pu]), rB g3 71 ([.int .i64 qk, .int .i64 qc, .string qn, .string qd, .int .i64 qz, qu])] := Hold.newB H1 e2 b2 c2
  clear H1
  clear e2 b2 c2
  have b3 : B w2 g2 71 ([.int .i64 pk, .int .i64 pc, .string pn, .string pd, .int .i64 pz, pu]) := Hold.blk H2 0 rfl
  have b4 : B w2 g3 71 ([.int .i64 qk, .int .i64 qc, .string qn, .string qd, .int .i64 qz, qu]) := Hold.blk H2 1 rfl
  refine r (sa rfl) (re (sq (sq (rg (r (fa Tryd.underlying71 rfl ti2 rfl rfl) (r (ldb Tryd.underlying2 rfl rfl b3 rfl) (r (fa Tryd.underlying71 rfl ti2 rfl rfl) (r (ldb Tryd.underlying2 rfl rfl b4 rfl) (r (bi rfl rfl rfl) (re ?_))))))))))
  refine cpn rfl (fun h0 => ?_) (fun h0 => ?_)
  · refine sq (rg (r (sa rfl) (re (rt ?_))))
    exact fin1 (v := .bool false) Tryd.results35 rfl ⟨congrArg Value.bool (decide_eq_false (fun e => h0 (by simp only [Prod.mk.injEq] at e; exact e.1))).symm, Hold.ch H2⟩
  · refine sk (sq (sq (rg (r (fa Tryd.underlying71 rfl ti62 rfl rfl) (r (lab [.int .i64 pc, .string pn, .string pd, .int .i64 pz] Tryd.underlying62 rfl ti62 rfl b3 rfl rfl) (r (fa Tryd.underlying71 rfl ti62 rfl rfl) (r (lab [.int .i64 qc, .string qn, .string qd, .int .i64 qz] Tryd.underlying62 rfl ti62 rfl b4 rfl rfl) (cl go80 (eqCall) (ac rfl (ac rfl an)) ?_))))))))
    rintro r wq ⟨rfl, cq⟩
    have H3 : Hold w [] wq [rB g2 71 ([.int .i64 pk, .int .i64 pc, .string pn, .string pd, .int .i64 pz, pu]), rB g3 71 ([.int .i64 qk, .int .i64 qc, .string qn, .string qd, .int .i64 qz, qu])] := Hold.t H2 cq
    clear H2
    clear cq
    refine r (nt rfl) (re ?_)
    refine cpn rfl (fun h1 => ?_) (fun h1 => ?_)
    · refine sq ?_
      refine gen (fun ρ => ρ 2 = .pointer (some ⟨g2, 0, none⟩) ∧ ρ 3 = .pointer (some ⟨g3, 0, none⟩) ∧ ρ 4 = .bool false ∧ True) ⟨rfl, rfl, rfl, trivial⟩ ?_
      rintro ρ ⟨z2, z3, z4, -⟩
      refine rg (r (sa rfl) (re (rt ?_)))
      exact fin1 (v := .bool false) Tryd.results35 rfl ⟨congrArg Value.bool (decide_eq_false (fun e => h1 (congrArg (fun t => t.2.1) e))).symm, Hold.ch H3⟩
    · refine sk (sq (sq ?_))
      refine gen (fun ρ => ρ 2 = .pointer (some ⟨g2, 0, none⟩) ∧ ρ 3 = .pointer (some ⟨g3, 0, none⟩) ∧ ρ 4 = .bool false ∧ True) ⟨rfl, rfl, rfl, trivial⟩ ?_
      rintro ρ ⟨z2, z3, z4, -⟩
      have b6 : B wq g2 71 ([.int .i64 pk, .int .i64 pc, .string pn, .string pd, .int .i64 pz, pu]) := Hold.blk H3 0 rfl
      have b7 : B wq g3 71 ([.int .i64 qk, .int .i64 qc, .string qn, .string qd, .int .i64 qz, qu]) := Hold.blk H3 1 rfl
      refine rg (r (fa Tryd.underlying71 rfl ti23 rfl z2) (r (ldb Tryd.underlying23 rfl rfl b6 rfl) (r (fa Tryd.underlying71 rfl ti23 rfl z3) (r (ldb Tryd.underlying23 rfl rfl b7 rfl) (cl go81 (eqInt64S (hx.t (Hold.ch H3)) (hy.t (Hold.ch H3)) (by first | assumption | omega | (simp; omega))) (ac rfl (ac rfl an)) ?_)))))
      rintro r wq8 ⟨rfl, cq8⟩
      have H4 : Hold w [] wq8 [rB g2 71 ([.int .i64 pk, .int .i64 pc, .string pn, .string pd, .int .i64 pz, pu]), rB g3 71 ([.int .i64 qk, .int .i64 qc, .string qn, .string qd, .int .i64 qz, qu])] := Hold.t H3 cq8
      clear H3
      clear cq8
      refine r (nt rfl) (re ?_)
      refine cpn rfl (fun h2 => ?_) (fun h2 => ?_)
      · refine sq (rg (r (sa rfl) (re (rt ?_))))
        exact fin1 (v := .bool false) Tryd.results35 rfl ⟨congrArg Value.bool (decide_eq_false (fun e => h2 (congrArg (fun t => t.2.2) e))).symm, Hold.ch H4⟩
      · have h0' : pk = qk := by simpa using h0
        have h1' : (pc, pn, pd, pz) = (qc, qn, qd, qz) := by first | exact h1 | simpa using h1
        have h2' : xs = ys := by first | exact h2 | simpa using h2
        refine sk (sq (rg (r (sa rfl) (re (rt ?_)))))
        exact fin1 (v := .bool true) Tryd.results35 rfl ⟨congrArg Value.bool (decide_eq_true (by rw [h0', h1', h2'])).symm, Hold.ch H4⟩
theorem markLine_H {w : World} {F : List Nat} {pu : Value} {xs : List Int} {k : Int} {e : TypeId} {pk pc pz : Int} {pn pd : ByteArray} (h : Hs w [rR i64 e pu xs] F) (n : F.Nodup) (hk : 0 ≤ k ∧ k ≤ 1000000000) (lx : xs.length ≤ 1000000000) :
    Ret Tryd.prog 36 #[.agg #[.int .i64 pk, .int .i64 pc, .string pn, .string pd, .int .i64 pz, pu], .int .i64 k] w (fun r w' => r = .int .i64 (k + xs.length) ∧ Hold w F w' [rR i64 e pu (marks8 k xs.length)]) := by
  refine enter Tryd.func36 rfl Tryd.ntmps36 (by rfl) (by rfl) ?_
  have H0 : Hold w F w [rR i64 e pu xs] := Hold.begin h n
  refine sq (rg (ef (xbx (t := 71) rfl rfl) ?_))
  rintro _ w1 ⟨g2, e1, rfl, -, b1, c1⟩
  have H1 : Hold w F w1 [rR i64 e pu xs, rB g2 71 ([.int .i64 pk, .int .i64 pc, .string pn, .string pd, .int .i64 pz, pu])] := Hold.newB H0 e1 b1 c1
  clear H0
  clear e1 b1 c1
  have b2 : B w1 g2 71 ([.int .i64 pk, .int .i64 pc, .string pn, .string pd, .int .i64 pz, pu]) := Hold.blk H1 1 rfl
  obtain ⟨F4, hF4, n4, s4, K4⟩ := Hold.front (Γ := [rR i64 e pu xs]) (Δ := [rB g2 71 ([.int .i64 pk, .int .i64 pc, .string pn, .string pd, .int .i64 pz, pu])]) H1
  refine r (sa rfl) (re (sq (rg (r (fa Tryd.underlying71 rfl ti23 rfl rfl) (r (ldb Tryd.underlying23 rfl rfl b2 rfl) (r (mv rfl) (cl go82 (markInt64S_H hF4 n4 (by omega) (by first | assumption | omega | (simp; omega))) (ac rfl (ac rfl an)) ?_)))))))
  rintro r wm3 ⟨rfl, Hm3⟩
  have H2 : Hold w F wm3 [rR i64 e pu (marks8 k xs.length), rB g2 71 ([.int .i64 pk, .int .i64 pc, .string pn, .string pd, .int .i64 pz, pu])] := Hold.call K4 Hm3
  clear H1
  clear K4 hF4 n4 s4
  clear Hm3
  refine r (sa rfl) (re (sq (rg (r (mv rfl) (r (sa rfl) (re (rt ?_)))))))
  have H3 : Hold w F wm3 [rR i64 e pu (marks8 k xs.length)] := (show Hold w F wm3 ([rR i64 e pu (marks8 k xs.length)] ++ [rB g2 71 ([.int .i64 pk, .int .i64 pc, .string pn, .string pd, .int .i64 pz, pu])]) from Hold.re H2 [0, 1] (by kernel_rfl) (by rfl)).drop
  clear H2
  exact fin1 (v := .int .i64 (k + (xs.length : Int))) Tryd.results36 rfl ⟨rfl, H3⟩
theorem heldLine {w : World} {F : List Nat} {pu : Value} {n : Nat} {k : Int} {pk pc pz : Int} {pn pd : ByteArray} (hx : i64.R w F pu (marks8 k n)) (hk : 0 ≤ k ∧ k ≤ 1000000000) (hln : n ≤ 1000000000) :
    Ret Tryd.prog 37 #[.agg #[.int .i64 pk, .int .i64 pc, .string pn, .string pd, .int .i64 pz, pu], .int .i64 k] w (fun r w' => r = .int .i64 (k + n) ∧ Ch [] w w') := by
  refine enter Tryd.func37 rfl Tryd.ntmps37 (by rfl) (by rfl) ?_
  have H0 : Hold w [] w [] := Hold.start w
  refine sq (rg (ef (xbx (t := 71) rfl rfl) ?_))
  rintro _ w1 ⟨g2, e1, rfl, -, b1, c1⟩
  have H1 : Hold w [] w1 [rB g2 71 ([.int .i64 pk, .int .i64 pc, .string pn, .string pd, .int .i64 pz, pu])] := Hold.newB H0 e1 b1 c1
  clear H0
  clear e1 b1 c1
  have b2 : B w1 g2 71 ([.int .i64 pk, .int .i64 pc, .string pn, .string pd, .int .i64 pz, pu]) := Hold.blk H1 0 rfl
  refine r (sa rfl) (re (sq (rg (r (fa Tryd.underlying71 rfl ti23 rfl rfl) (r (ldb Tryd.underlying23 rfl rfl b2 rfl) (r (mv rfl) (cl go83 (heldInt64S (n := n) (hx.t (Hold.ch H1)) (by omega) (by first | assumption | omega | (simp; omega))) (ac rfl (ac rfl an)) ?_)))))))
  rintro r wh3 ⟨rfl, ch3⟩
  have H2 : Hold w [] wh3 [rB g2 71 ([.int .i64 pk, .int .i64 pc, .string pn, .string pd, .int .i64 pz, pu])] := Hold.t H1 ch3
  clear H1
  clear ch3
  refine r (sa rfl) (re (sq (sq (rg (r (mv rfl) (r (bi rfl rfl rfl) (re ?_)))))))
  refine cf ((rfl : _ = Value.bool (decide ((k + ((n : Nat) : Int)) < 0))).trans (congrArg Value.bool (show (decide ((k + ((n : Nat) : Int)) < 0)) = false from decide_eq_false (by omega)))) ?_
  refine sk (sq (rg (r (mv rfl) (r (sa rfl) (re (rt ?_))))))
  exact fin1 (v := .int .i64 (k + ((n : Nat) : Int))) Tryd.results37 rfl ⟨rfl, Hold.ch H2⟩
theorem w_FnExactParseLine {w : World} {F : List Nat} {v : Value} {xs : List Int} {m : Int} (hx : u8.R w F v xs) (l0 : xs.length ≤ 9223372036854775807) (ok : ok8 xs) (hm : w.cell? ⟨1, 0, none⟩ = some (.int .i64 m)) :
    Ret Tryd.prog 6 #[v] w (fun r w' => r = .bool true ∧ Ch [] w w') := by
  refine enter Tryd.func6 rfl Tryd.ntmps6 (by rfl) (by rfl) ?_
  have H0 : Hold w [] w [] := Hold.start w
  refine sq (rg (r (sa rfl) (re (sq (sq (rg (r (mv rfl) (r (ln Tryd.underlying22 rfl ((hx.t (Hold.ch H0)))) (r (bi rfl rfl rfl) (re ?_))))))))))
  refine cp rfl (fun h => ?_) (fun h => ?_)
  · refine sq (rg (r (sa rfl) (re (rt ?_))))
    exact fin1 (v := .bool true) Tryd.results6 rfl ⟨rfl, Hold.ch H0⟩
  · have lx : xs.length ≤ 1000000000 := by omega
    have lD : (lineV xs).ns.length ≤ 60001 := lineV_ns xs
    refine sk (sq (rg (r (mv rfl) (cl go8 (toByteS_H (hx.t (Hold.ch H0)) (by first | assumption | omega | (simp; omega))) (ac rfl an) ?_))))
    rintro r1 wt1 Ht1
    have H1 : Hold w [] wt1 [rR u8 5 r1 xs] := Hold.news H0 Ht1
    clear H0
    clear Ht1
    obtain ⟨_, R5⟩ : ∃ F, Kd.R u8 wt1 F r1 xs := Hold.row H1 0 rfl
    refine cl go33 (spec_ParseLine R5 (by omega)) (ac rfl an) ?_
    rintro r wd3 ⟨u3, rfl, Hd3⟩
    have H2 : Hold w [] wd3 [rR u8 5 r1 xs, rR i64 2 u3 ((lineV xs).ns)] := Hold.news H1 Hd3
    clear H1
    clear Hd3
    refine ef (xal ti71) ?_
    rintro _ w6 ⟨g3, e6, rfl, -, b6, c6⟩
    have H3 : Hold w [] w6 [rR u8 5 r1 xs, rR i64 2 u3 ((lineV xs).ns), rB g3 71 ([.int .i64 0, .int .i64 0, .string ⟨#[]⟩, .string ⟨#[]⟩, .int .i64 0, .slice none 0 0])] := Hold.newB H2 e6 b6 c6
    clear H2
    clear e6 b6 c6
    have b7 : B w6 g3 71 ([.int .i64 0, .int .i64 0, .string ⟨#[]⟩, .string ⟨#[]⟩, .int .i64 0, .slice none 0 0]) := Hold.blk H3 2 rfl
    obtain ⟨_, R9⟩ : ∃ F, Kd.R i64 w6 F u3 ((lineV xs).ns) := Hold.row H3 1 rfl
    refine ef0 (xst (vs := [.int .i64 ((lineV xs).kind), .int .i64 ((lineV xs).ck), .string ((lineV xs).nm), .string ((lineV xs).dt), .int .i64 ((lineV xs).sz), u3]) ti71 rfl rfl rfl b7 rfl (Nat.le_of_ble_eq_true rfl) (oc rfl (oc rfl (oc rfl (oc rfl (oc rfl (oc (R9).oneCell on))))))) ?_
    rintro w8 ⟨-, b8, c8⟩
    have H4 : Hold w [] w8 [rR u8 5 r1 xs, rR i64 2 u3 ((lineV xs).ns), rB g3 71 ([.int .i64 ((lineV xs).kind), .int .i64 ((lineV xs).ck), .string ((lineV xs).nm), .string ((lineV xs).dt), .int .i64 ((lineV xs).sz), u3])] := Hold.setB H3 2 rfl b8 c8 rfl
    clear H3
    clear b8 c8
    refine re (sq (rg (r (mv rfl) (cl go8 (toByteS_H (hx.t (Hold.ch H4)) (by first | assumption | omega | (simp; omega))) (ac rfl an) ?_))))
    rintro r10 wt10 Ht10
    have H5 : Hold w [] wt10 [rR u8 5 r1 xs, rR i64 2 u3 ((lineV xs).ns), rB g3 71 ([.int .i64 ((lineV xs).kind), .int .i64 ((lineV xs).ck), .string ((lineV xs).nm), .string ((lineV xs).dt), .int .i64 ((lineV xs).sz), u3]), rR u8 5 r10 xs] := Hold.news H4 Ht10
    clear H4
    clear Ht10
    refine r (sa rfl) (re (sq ?_))
    refine gen (fun ρ => ρ 0 = v ∧ ρ 2 = .bool false ∧ ρ 3 = .pointer (some ⟨g3, 0, none⟩) ∧ ρ 4 = r10 ∧ True) ⟨rfl, rfl, rfl, rfl, trivial⟩ ?_
    rintro ρ ⟨z0, z2, z3, z4, -⟩
    obtain ⟨_, R14⟩ : ∃ F, Kd.R u8 wt10 F r10 xs := Hold.row H5 3 rfl
    refine rg (r (mv z4) (cl go34 (impl_ParseLine R14 (by omega) ok (Ch.cell (Hold.ch H5) hm)) (ac rfl an) ?_))
    rintro r wd12 ⟨u12, rfl, Hd12⟩
    have H6 : Hold w [] wd12 [rR u8 5 r1 xs, rR i64 2 u3 ((lineV xs).ns), rB g3 71 ([.int .i64 ((lineV xs).kind), .int .i64 ((lineV xs).ck), .string ((lineV xs).nm), .string ((lineV xs).dt), .int .i64 ((lineV xs).sz), u3]), rR u8 5 r10 xs, rR i64 2 u12 ((lineV xs).ns)] := Hold.news H5 Hd12
    clear H5
    clear Hd12
    refine ef (xal ti71) ?_
    rintro _ w15 ⟨g5, e15, rfl, -, b15, c15⟩
    have H7 : Hold w [] w15 [rR u8 5 r1 xs, rR i64 2 u3 ((lineV xs).ns), rB g3 71 ([.int .i64 ((lineV xs).kind), .int .i64 ((lineV xs).ck), .string ((lineV xs).nm), .string ((lineV xs).dt), .int .i64 ((lineV xs).sz), u3]), rR u8 5 r10 xs, rR i64 2 u12 ((lineV xs).ns), rB g5 71 ([.int .i64 0, .int .i64 0, .string ⟨#[]⟩, .string ⟨#[]⟩, .int .i64 0, .slice none 0 0])] := Hold.newB H6 e15 b15 c15
    clear H6
    clear e15 b15 c15
    have b16 : B w15 g5 71 ([.int .i64 0, .int .i64 0, .string ⟨#[]⟩, .string ⟨#[]⟩, .int .i64 0, .slice none 0 0]) := Hold.blk H7 5 rfl
    obtain ⟨_, R18⟩ : ∃ F, Kd.R i64 w15 F u12 ((lineV xs).ns) := Hold.row H7 4 rfl
    refine ef0 (xst (vs := [.int .i64 ((lineV xs).kind), .int .i64 ((lineV xs).ck), .string ((lineV xs).nm), .string ((lineV xs).dt), .int .i64 ((lineV xs).sz), u12]) ti71 rfl rfl rfl b16 rfl (Nat.le_of_ble_eq_true rfl) (oc rfl (oc rfl (oc rfl (oc rfl (oc rfl (oc (R18).oneCell on))))))) ?_
    rintro w17 ⟨-, b17, c17⟩
    have H8 : Hold w [] w17 [rR u8 5 r1 xs, rR i64 2 u3 ((lineV xs).ns), rB g3 71 ([.int .i64 ((lineV xs).kind), .int .i64 ((lineV xs).ck), .string ((lineV xs).nm), .string ((lineV xs).dt), .int .i64 ((lineV xs).sz), u3]), rR u8 5 r10 xs, rR i64 2 u12 ((lineV xs).ns), rB g5 71 ([.int .i64 ((lineV xs).kind), .int .i64 ((lineV xs).ck), .string ((lineV xs).nm), .string ((lineV xs).dt), .int .i64 ((lineV xs).sz), u12])] := Hold.setB H7 5 rfl b17 c17 rfl
    clear H7
    clear b17 c17
    have b19 : B w17 g5 71 ([.int .i64 ((lineV xs).kind), .int .i64 ((lineV xs).ck), .string ((lineV xs).nm), .string ((lineV xs).dt), .int .i64 ((lineV xs).sz), u12]) := Hold.blk H8 5 rfl
    have b20 : B w17 g3 71 ([.int .i64 ((lineV xs).kind), .int .i64 ((lineV xs).ck), .string ((lineV xs).nm), .string ((lineV xs).dt), .int .i64 ((lineV xs).sz), u3]) := Hold.blk H8 2 rfl
    obtain ⟨_, R23⟩ : ∃ F, Kd.R i64 w17 F u12 ((lineV xs).ns) := Hold.row H8 4 rfl
    obtain ⟨_, R24⟩ : ∃ F, Kd.R i64 w17 F u3 ((lineV xs).ns) := Hold.row H8 1 rfl
    refine re (sq (sq (rg (r (lab [.int .i64 ((lineV xs).kind), .int .i64 ((lineV xs).ck), .string ((lineV xs).nm), .string ((lineV xs).dt), .int .i64 ((lineV xs).sz), u12] Tryd.underlying71 rfl ti71 rfl b19 rfl rfl) (r (lab [.int .i64 ((lineV xs).kind), .int .i64 ((lineV xs).ck), .string ((lineV xs).nm), .string ((lineV xs).dt), .int .i64 ((lineV xs).sz), u3] Tryd.underlying71 rfl ti71 z3 b20 rfl rfl) (cl go35 (eqLine R23 R24 (by first | assumption | omega | (simp; omega))) (ac rfl (ac rfl an)) ?_))))))
    rintro r wq21 ⟨rfl, cq21⟩
    have H9 : Hold w [] wq21 [rR u8 5 r1 xs, rR i64 2 u3 ((lineV xs).ns), rB g3 71 ([.int .i64 ((lineV xs).kind), .int .i64 ((lineV xs).ck), .string ((lineV xs).nm), .string ((lineV xs).dt), .int .i64 ((lineV xs).sz), u3]), rR u8 5 r10 xs, rR i64 2 u12 ((lineV xs).ns), rB g5 71 ([.int .i64 ((lineV xs).kind), .int .i64 ((lineV xs).ck), .string ((lineV xs).nm), .string ((lineV xs).dt), .int .i64 ((lineV xs).sz), u12])] := Hold.t H8 cq21
    clear H8
    clear cq21
    refine r (nt rfl) (re ?_)
    refine cf ((rfl : _ = Value.bool (!(decide (((lineV xs).kind, ((lineV xs).ck, (lineV xs).nm, (lineV xs).dt, (lineV xs).sz), (lineV xs).ns) = ((lineV xs).kind, ((lineV xs).ck, (lineV xs).nm, (lineV xs).dt, (lineV xs).sz), (lineV xs).ns))))).trans (congrArg Value.bool (show (!(decide (((lineV xs).kind, ((lineV xs).ck, (lineV xs).nm, (lineV xs).dt, (lineV xs).sz), (lineV xs).ns) = ((lineV xs).kind, ((lineV xs).ck, (lineV xs).nm, (lineV xs).dt, (lineV xs).sz), (lineV xs).ns)))) = false from (by rw [decide_eq_true rfl]; rfl)))) ?_
    refine sk (sq (sq (rg (r (mv z4) (r (mv z0) (cl go8 (toByteS_H (hx.t (Hold.ch H9)) (by first | assumption | omega | (simp; omega))) (ac rfl an) ?_))))))
    rintro r25 wt25 Ht25
    have H10 : Hold w [] wt25 [rR u8 5 r1 xs, rR i64 2 u3 ((lineV xs).ns), rB g3 71 ([.int .i64 ((lineV xs).kind), .int .i64 ((lineV xs).ck), .string ((lineV xs).nm), .string ((lineV xs).dt), .int .i64 ((lineV xs).sz), u3]), rR u8 5 r10 xs, rR i64 2 u12 ((lineV xs).ns), rB g5 71 ([.int .i64 ((lineV xs).kind), .int .i64 ((lineV xs).ck), .string ((lineV xs).nm), .string ((lineV xs).dt), .int .i64 ((lineV xs).sz), u12]), rR u8 5 r25 xs] := Hold.news H9 Ht25
    clear H9
    clear Ht25
    obtain ⟨_, R29⟩ : ∃ F, Kd.R u8 wt25 F r10 xs := Hold.row H10 3 rfl
    obtain ⟨_, R30⟩ : ∃ F, Kd.R u8 wt25 F r25 xs := Hold.row H10 6 rfl
    refine cl go11 (eqByteS R29 R30 (by first | assumption | omega | (simp; omega))) (ac rfl (ac rfl an)) ?_
    rintro r wq27 ⟨rfl, cq27⟩
    have H11 : Hold w [] wq27 [rR u8 5 r1 xs, rR i64 2 u3 ((lineV xs).ns), rB g3 71 ([.int .i64 ((lineV xs).kind), .int .i64 ((lineV xs).ck), .string ((lineV xs).nm), .string ((lineV xs).dt), .int .i64 ((lineV xs).sz), u3]), rR u8 5 r10 xs, rR i64 2 u12 ((lineV xs).ns), rB g5 71 ([.int .i64 ((lineV xs).kind), .int .i64 ((lineV xs).ck), .string ((lineV xs).nm), .string ((lineV xs).dt), .int .i64 ((lineV xs).sz), u12]), rR u8 5 r25 xs] := Hold.t H10 cq27
    clear H10
    clear cq27
    refine r (nt rfl) (re ?_)
    refine cf ((rfl : _ = Value.bool (!(decide (xs = xs)))).trans (congrArg Value.bool (show (!(decide (xs = xs))) = false from (by rw [decide_eq_true rfl]; rfl)))) ?_
    refine sk (sq ?_)
    refine gen (fun ρ => ρ 0 = v ∧ ρ 2 = .bool false ∧ ρ 3 = .pointer (some ⟨g3, 0, none⟩) ∧ ρ 4 = r10 ∧ ρ 5 = .pointer (some ⟨g5, 0, none⟩) ∧ True) ⟨z0, z2, z3, z4, rfl, trivial⟩ ?_
    rintro ρ ⟨z0, z2, z3, z4, z5, -⟩
    have H12 : Hold w [] wq27 [rR u8 5 r10 xs, rR u8 5 r1 xs, rR i64 2 u3 ((lineV xs).ns), rB g3 71 ([.int .i64 ((lineV xs).kind), .int .i64 ((lineV xs).ck), .string ((lineV xs).nm), .string ((lineV xs).dt), .int .i64 ((lineV xs).sz), u3]), rR i64 2 u12 ((lineV xs).ns), rB g5 71 ([.int .i64 ((lineV xs).kind), .int .i64 ((lineV xs).ck), .string ((lineV xs).nm), .string ((lineV xs).dt), .int .i64 ((lineV xs).sz), u12]), rR u8 5 r25 xs] := Hold.re H11 [3, 0, 1, 2, 4, 5, 6] (by kernel_rfl) (by rfl)
    clear H11
    obtain ⟨F32, hF32, n32, s32, K32⟩ := Hold.front (Γ := [rR u8 5 r10 xs]) (Δ := [rR u8 5 r1 xs, rR i64 2 u3 ((lineV xs).ns), rB g3 71 ([.int .i64 ((lineV xs).kind), .int .i64 ((lineV xs).ck), .string ((lineV xs).nm), .string ((lineV xs).dt), .int .i64 ((lineV xs).sz), u3]), rR i64 2 u12 ((lineV xs).ns), rB g5 71 ([.int .i64 ((lineV xs).kind), .int .i64 ((lineV xs).ck), .string ((lineV xs).nm), .string ((lineV xs).dt), .int .i64 ((lineV xs).sz), u12]), rR u8 5 r25 xs]) H12
    refine rg (r (sa rfl) (re (sq (rg (r (mv z4) (r (mv rfl) (cl go12 (markByteS_H hF32 n32 (by omega) (by first | assumption | omega | (simp; omega))) (ac rfl (ac rfl an)) ?_)))))))
    rintro r wm31 ⟨rfl, Hm31⟩
    have H13 : Hold w [] wm31 [rR u8 5 r10 (marks 1 xs.length), rR u8 5 r1 xs, rR i64 2 u3 ((lineV xs).ns), rB g3 71 ([.int .i64 ((lineV xs).kind), .int .i64 ((lineV xs).ck), .string ((lineV xs).nm), .string ((lineV xs).dt), .int .i64 ((lineV xs).sz), u3]), rR i64 2 u12 ((lineV xs).ns), rB g5 71 ([.int .i64 ((lineV xs).kind), .int .i64 ((lineV xs).ck), .string ((lineV xs).nm), .string ((lineV xs).dt), .int .i64 ((lineV xs).sz), u12]), rR u8 5 r25 xs] := Hold.call K32 Hm31
    clear H12
    clear K32 hF32 n32 s32
    clear Hm31
    refine r (sa rfl) (re (sq (sq (rg (r (mv rfl) (r (bi rfl rfl rfl) (r (mv rfl) ?_)))))))
    refine spf 34 rfl (show (decide ((1 + (xs.length : Int)) < 0)) = false from (decide_eq_false (by omega))) ?_
    have b33 : B wm31 g5 71 ([.int .i64 ((lineV xs).kind), .int .i64 ((lineV xs).ck), .string ((lineV xs).nm), .string ((lineV xs).dt), .int .i64 ((lineV xs).sz), u12]) := Hold.blk H13 5 rfl
    have b34 : B wm31 g3 71 ([.int .i64 ((lineV xs).kind), .int .i64 ((lineV xs).ck), .string ((lineV xs).nm), .string ((lineV xs).dt), .int .i64 ((lineV xs).sz), u3]) := Hold.blk H13 3 rfl
    obtain ⟨_, R37⟩ : ∃ F, Kd.R i64 wm31 F u12 ((lineV xs).ns) := Hold.row H13 4 rfl
    obtain ⟨_, R38⟩ : ∃ F, Kd.R i64 wm31 F u3 ((lineV xs).ns) := Hold.row H13 2 rfl
    refine gy rfl rfl rfl (r (lab [.int .i64 ((lineV xs).kind), .int .i64 ((lineV xs).ck), .string ((lineV xs).nm), .string ((lineV xs).dt), .int .i64 ((lineV xs).sz), u12] Tryd.underlying71 rfl ti71 z5 b33 rfl rfl) (gy rfl rfl rfl (r (lab [.int .i64 ((lineV xs).kind), .int .i64 ((lineV xs).ck), .string ((lineV xs).nm), .string ((lineV xs).dt), .int .i64 ((lineV xs).sz), u3] Tryd.underlying71 rfl ti71 z3 b34 rfl rfl) (gy rfl rfl rfl (cl go35 (eqLine R37 R38 (by first | assumption | omega | (simp; omega))) (ac rfl (ac rfl an)) ?_)))))
    rintro r wq35 ⟨rfl, cq35⟩
    have H14 : Hold w [] wq35 [rR u8 5 r10 (marks 1 xs.length), rR u8 5 r1 xs, rR i64 2 u3 ((lineV xs).ns), rB g3 71 ([.int .i64 ((lineV xs).kind), .int .i64 ((lineV xs).ck), .string ((lineV xs).nm), .string ((lineV xs).dt), .int .i64 ((lineV xs).sz), u3]), rR i64 2 u12 ((lineV xs).ns), rB g5 71 ([.int .i64 ((lineV xs).kind), .int .i64 ((lineV xs).ck), .string ((lineV xs).nm), .string ((lineV xs).dt), .int .i64 ((lineV xs).sz), u12]), rR u8 5 r25 xs] := Hold.t H13 cq35
    clear H13
    clear cq35
    refine gy rfl rfl rfl (r (nt rfl) (r (pk rfl rfl) (re ?_)))
    refine cf ((rfl : _ = Value.bool (!(decide (((lineV xs).kind, ((lineV xs).ck, (lineV xs).nm, (lineV xs).dt, (lineV xs).sz), (lineV xs).ns) = ((lineV xs).kind, ((lineV xs).ck, (lineV xs).nm, (lineV xs).dt, (lineV xs).sz), (lineV xs).ns))))).trans (congrArg Value.bool (show (!(decide (((lineV xs).kind, ((lineV xs).ck, (lineV xs).nm, (lineV xs).dt, (lineV xs).sz), (lineV xs).ns) = ((lineV xs).kind, ((lineV xs).ck, (lineV xs).nm, (lineV xs).dt, (lineV xs).sz), (lineV xs).ns)))) = false from (by rw [decide_eq_true rfl]; rfl)))) ?_
    refine sk (sq ?_)
    refine gen (fun ρ => ρ 0 = v ∧ ρ 2 = .bool false ∧ ρ 3 = .pointer (some ⟨g3, 0, none⟩) ∧ ρ 5 = .pointer (some ⟨g5, 0, none⟩) ∧ True) ⟨z0, z2, z3, z5, trivial⟩ ?_
    rintro ρ ⟨z0, z2, z3, z5, -⟩
    have b39 : B wq35 g5 71 ([.int .i64 ((lineV xs).kind), .int .i64 ((lineV xs).ck), .string ((lineV xs).nm), .string ((lineV xs).dt), .int .i64 ((lineV xs).sz), u12]) := Hold.blk H14 5 rfl
    have H15 : Hold w [] wq35 [rR i64 2 u12 ((lineV xs).ns), rR u8 5 r10 (marks 1 xs.length), rR u8 5 r1 xs, rR i64 2 u3 ((lineV xs).ns), rB g3 71 ([.int .i64 ((lineV xs).kind), .int .i64 ((lineV xs).ck), .string ((lineV xs).nm), .string ((lineV xs).dt), .int .i64 ((lineV xs).sz), u3]), rB g5 71 ([.int .i64 ((lineV xs).kind), .int .i64 ((lineV xs).ck), .string ((lineV xs).nm), .string ((lineV xs).dt), .int .i64 ((lineV xs).sz), u12]), rR u8 5 r25 xs] := Hold.re H14 [4, 0, 1, 2, 3, 5, 6] (by kernel_rfl) (by rfl)
    clear H14
    obtain ⟨F41, hF41, n41, s41, K41⟩ := Hold.front (Γ := [rR i64 2 u12 ((lineV xs).ns)]) (Δ := [rR u8 5 r10 (marks 1 xs.length), rR u8 5 r1 xs, rR i64 2 u3 ((lineV xs).ns), rB g3 71 ([.int .i64 ((lineV xs).kind), .int .i64 ((lineV xs).ck), .string ((lineV xs).nm), .string ((lineV xs).dt), .int .i64 ((lineV xs).sz), u3]), rB g5 71 ([.int .i64 ((lineV xs).kind), .int .i64 ((lineV xs).ck), .string ((lineV xs).nm), .string ((lineV xs).dt), .int .i64 ((lineV xs).sz), u12]), rR u8 5 r25 xs]) H15
    refine rg (r (sa rfl) (re (sq (rg (r (lab [.int .i64 ((lineV xs).kind), .int .i64 ((lineV xs).ck), .string ((lineV xs).nm), .string ((lineV xs).dt), .int .i64 ((lineV xs).sz), u12] Tryd.underlying71 rfl ti71 z5 b39 rfl rfl) (r (mv rfl) (cl go36 (markLine_H hF41 n41 (by omega) (by first | assumption | omega | (simp; omega))) (ac rfl (ac rfl an)) ?_)))))))
    rintro r wm40 ⟨rfl, Hm40⟩
    have H16 : Hold w [] wm40 [rR i64 2 u12 (marks8 1 ((lineV xs).ns).length), rR u8 5 r10 (marks 1 xs.length), rR u8 5 r1 xs, rR i64 2 u3 ((lineV xs).ns), rB g3 71 ([.int .i64 ((lineV xs).kind), .int .i64 ((lineV xs).ck), .string ((lineV xs).nm), .string ((lineV xs).dt), .int .i64 ((lineV xs).sz), u3]), rB g5 71 ([.int .i64 ((lineV xs).kind), .int .i64 ((lineV xs).ck), .string ((lineV xs).nm), .string ((lineV xs).dt), .int .i64 ((lineV xs).sz), u12]), rR u8 5 r25 xs] := Hold.call K41 Hm40
    clear H15
    clear K41 hF41 n41 s41
    clear Hm40
    have b42 : B wm40 g5 71 ([.int .i64 ((lineV xs).kind), .int .i64 ((lineV xs).ck), .string ((lineV xs).nm), .string ((lineV xs).dt), .int .i64 ((lineV xs).sz), u12]) := Hold.blk H16 5 rfl
    obtain ⟨_, R45⟩ : ∃ F, Kd.R i64 wm40 F u12 (marks8 1 ((lineV xs).ns).length) := Hold.row H16 0 rfl
    refine r (sa rfl) (re (sq (rg (r (sa rfl) (re (sq (rg (r (lab [.int .i64 ((lineV xs).kind), .int .i64 ((lineV xs).ck), .string ((lineV xs).nm), .string ((lineV xs).dt), .int .i64 ((lineV xs).sz), u12] Tryd.underlying71 rfl ti71 z5 b42 rfl rfl) (r (mv rfl) (cl go37 (heldLine (n := ((lineV xs).ns).length) R45 (by omega) (by first | assumption | omega | (simp; omega))) (ac rfl (ac rfl an)) ?_))))))))))
    rintro r wh43 ⟨rfl, ch43⟩
    have H17 : Hold w [] wh43 [rR i64 2 u12 (marks8 1 ((lineV xs).ns).length), rR u8 5 r10 (marks 1 xs.length), rR u8 5 r1 xs, rR i64 2 u3 ((lineV xs).ns), rB g3 71 ([.int .i64 ((lineV xs).kind), .int .i64 ((lineV xs).ck), .string ((lineV xs).nm), .string ((lineV xs).dt), .int .i64 ((lineV xs).sz), u3]), rB g5 71 ([.int .i64 ((lineV xs).kind), .int .i64 ((lineV xs).ck), .string ((lineV xs).nm), .string ((lineV xs).dt), .int .i64 ((lineV xs).sz), u12]), rR u8 5 r25 xs] := Hold.t H16 ch43
    clear H16
    clear ch43
    refine r (sa rfl) (re (sq (sq ?_)))
    refine gen (fun ρ => ρ 0 = v ∧ ρ 2 = .bool false ∧ ρ 3 = .pointer (some ⟨g3, 0, none⟩) ∧ ρ 7 = .int .i64 (1 + (((lineV xs).ns).length : Int)) ∧ ρ 8 = .int .i64 (1 + ((((lineV xs).ns).length : Nat) : Int)) ∧ True) ⟨z0, z2, z3, rfl, rfl, trivial⟩ ?_
    rintro ρ ⟨z0, z2, z3, z7, z8, -⟩
    refine rg (r (mv z8) (r (bi rfl rfl rfl) (re ?_)))
    refine cf ((rfl : _ = Value.bool (decide ((1 + ((((lineV xs).ns).length : Nat) : Int)) < 0))).trans (congrArg Value.bool (show (decide ((1 + ((((lineV xs).ns).length : Nat) : Int)) < 0)) = false from (decide_eq_false (by omega))))) ?_
    refine sk (sq (sq (rg (r (mv z8) (r (mv z7) (r (bi rfl rfl rfl) (re ?_)))))))
    refine cf ((rfl : _ = Value.bool (!decide ((1 + ((((lineV xs).ns).length : Nat) : Int)) = (1 + (((lineV xs).ns).length : Int))))).trans (congrArg Value.bool (show (!decide ((1 + ((((lineV xs).ns).length : Nat) : Int)) = (1 + (((lineV xs).ns).length : Int)))) = false from (by rw [decide_eq_true (by omega)]; rfl)))) ?_
    refine sk (sq (rg (r (mv z0) (cl go8 (toByteS_H (hx.t (Hold.ch H17)) (by first | assumption | omega | (simp; omega))) (ac rfl an) ?_))))
    rintro r46 wt46 Ht46
    have H18 : Hold w [] wt46 [rR i64 2 u12 (marks8 1 ((lineV xs).ns).length), rR u8 5 r10 (marks 1 xs.length), rR u8 5 r1 xs, rR i64 2 u3 ((lineV xs).ns), rB g3 71 ([.int .i64 ((lineV xs).kind), .int .i64 ((lineV xs).ck), .string ((lineV xs).nm), .string ((lineV xs).dt), .int .i64 ((lineV xs).sz), u3]), rB g5 71 ([.int .i64 ((lineV xs).kind), .int .i64 ((lineV xs).ck), .string ((lineV xs).nm), .string ((lineV xs).dt), .int .i64 ((lineV xs).sz), u12]), rR u8 5 r25 xs, rR u8 5 r46 xs] := Hold.news H17 Ht46
    clear H17
    clear Ht46
    obtain ⟨_, R50⟩ : ∃ F, Kd.R u8 wt46 F r46 xs := Hold.row H18 7 rfl
    refine cl go34 (impl_ParseLine R50 (by omega) ok (Ch.cell (Hold.ch H18) hm)) (ac rfl an) ?_
    rintro r wd48 ⟨u48, rfl, Hd48⟩
    have H19 : Hold w [] wd48 [rR i64 2 u12 (marks8 1 ((lineV xs).ns).length), rR u8 5 r10 (marks 1 xs.length), rR u8 5 r1 xs, rR i64 2 u3 ((lineV xs).ns), rB g3 71 ([.int .i64 ((lineV xs).kind), .int .i64 ((lineV xs).ck), .string ((lineV xs).nm), .string ((lineV xs).dt), .int .i64 ((lineV xs).sz), u3]), rB g5 71 ([.int .i64 ((lineV xs).kind), .int .i64 ((lineV xs).ck), .string ((lineV xs).nm), .string ((lineV xs).dt), .int .i64 ((lineV xs).sz), u12]), rR u8 5 r25 xs, rR u8 5 r46 xs, rR i64 2 u48 ((lineV xs).ns)] := Hold.news H18 Hd48
    clear H18
    clear Hd48
    refine ef (xal ti71) ?_
    rintro _ w51 ⟨g9, e51, rfl, -, b51, c51⟩
    have H20 : Hold w [] w51 [rR i64 2 u12 (marks8 1 ((lineV xs).ns).length), rR u8 5 r10 (marks 1 xs.length), rR u8 5 r1 xs, rR i64 2 u3 ((lineV xs).ns), rB g3 71 ([.int .i64 ((lineV xs).kind), .int .i64 ((lineV xs).ck), .string ((lineV xs).nm), .string ((lineV xs).dt), .int .i64 ((lineV xs).sz), u3]), rB g5 71 ([.int .i64 ((lineV xs).kind), .int .i64 ((lineV xs).ck), .string ((lineV xs).nm), .string ((lineV xs).dt), .int .i64 ((lineV xs).sz), u12]), rR u8 5 r25 xs, rR u8 5 r46 xs, rR i64 2 u48 ((lineV xs).ns), rB g9 71 ([.int .i64 0, .int .i64 0, .string ⟨#[]⟩, .string ⟨#[]⟩, .int .i64 0, .slice none 0 0])] := Hold.newB H19 e51 b51 c51
    clear H19
    clear e51 b51 c51
    have b52 : B w51 g9 71 ([.int .i64 0, .int .i64 0, .string ⟨#[]⟩, .string ⟨#[]⟩, .int .i64 0, .slice none 0 0]) := Hold.blk H20 9 rfl
    obtain ⟨_, R54⟩ : ∃ F, Kd.R i64 w51 F u48 ((lineV xs).ns) := Hold.row H20 8 rfl
    refine ef0 (xst (vs := [.int .i64 ((lineV xs).kind), .int .i64 ((lineV xs).ck), .string ((lineV xs).nm), .string ((lineV xs).dt), .int .i64 ((lineV xs).sz), u48]) ti71 rfl rfl rfl b52 rfl (Nat.le_of_ble_eq_true rfl) (oc rfl (oc rfl (oc rfl (oc rfl (oc rfl (oc (R54).oneCell on))))))) ?_
    rintro w53 ⟨-, b53, c53⟩
    have H21 : Hold w [] w53 [rR i64 2 u12 (marks8 1 ((lineV xs).ns).length), rR u8 5 r10 (marks 1 xs.length), rR u8 5 r1 xs, rR i64 2 u3 ((lineV xs).ns), rB g3 71 ([.int .i64 ((lineV xs).kind), .int .i64 ((lineV xs).ck), .string ((lineV xs).nm), .string ((lineV xs).dt), .int .i64 ((lineV xs).sz), u3]), rB g5 71 ([.int .i64 ((lineV xs).kind), .int .i64 ((lineV xs).ck), .string ((lineV xs).nm), .string ((lineV xs).dt), .int .i64 ((lineV xs).sz), u12]), rR u8 5 r25 xs, rR u8 5 r46 xs, rR i64 2 u48 ((lineV xs).ns), rB g9 71 ([.int .i64 ((lineV xs).kind), .int .i64 ((lineV xs).ck), .string ((lineV xs).nm), .string ((lineV xs).dt), .int .i64 ((lineV xs).sz), u48])] := Hold.setB H20 9 rfl b53 c53 rfl
    clear H20
    clear b53 c53
    have b55 : B w53 g9 71 ([.int .i64 ((lineV xs).kind), .int .i64 ((lineV xs).ck), .string ((lineV xs).nm), .string ((lineV xs).dt), .int .i64 ((lineV xs).sz), u48]) := Hold.blk H21 9 rfl
    have b56 : B w53 g3 71 ([.int .i64 ((lineV xs).kind), .int .i64 ((lineV xs).ck), .string ((lineV xs).nm), .string ((lineV xs).dt), .int .i64 ((lineV xs).sz), u3]) := Hold.blk H21 4 rfl
    obtain ⟨_, R59⟩ : ∃ F, Kd.R i64 w53 F u48 ((lineV xs).ns) := Hold.row H21 8 rfl
    obtain ⟨_, R60⟩ : ∃ F, Kd.R i64 w53 F u3 ((lineV xs).ns) := Hold.row H21 3 rfl
    refine re (sq (sq (rg (r (lab [.int .i64 ((lineV xs).kind), .int .i64 ((lineV xs).ck), .string ((lineV xs).nm), .string ((lineV xs).dt), .int .i64 ((lineV xs).sz), u48] Tryd.underlying71 rfl ti71 rfl b55 rfl rfl) (r (lab [.int .i64 ((lineV xs).kind), .int .i64 ((lineV xs).ck), .string ((lineV xs).nm), .string ((lineV xs).dt), .int .i64 ((lineV xs).sz), u3] Tryd.underlying71 rfl ti71 z3 b56 rfl rfl) (cl go35 (eqLine R59 R60 (by first | assumption | omega | (simp; omega))) (ac rfl (ac rfl an)) ?_))))))
    rintro r wq57 ⟨rfl, cq57⟩
    have H22 : Hold w [] wq57 [rR i64 2 u12 (marks8 1 ((lineV xs).ns).length), rR u8 5 r10 (marks 1 xs.length), rR u8 5 r1 xs, rR i64 2 u3 ((lineV xs).ns), rB g3 71 ([.int .i64 ((lineV xs).kind), .int .i64 ((lineV xs).ck), .string ((lineV xs).nm), .string ((lineV xs).dt), .int .i64 ((lineV xs).sz), u3]), rB g5 71 ([.int .i64 ((lineV xs).kind), .int .i64 ((lineV xs).ck), .string ((lineV xs).nm), .string ((lineV xs).dt), .int .i64 ((lineV xs).sz), u12]), rR u8 5 r25 xs, rR u8 5 r46 xs, rR i64 2 u48 ((lineV xs).ns), rB g9 71 ([.int .i64 ((lineV xs).kind), .int .i64 ((lineV xs).ck), .string ((lineV xs).nm), .string ((lineV xs).dt), .int .i64 ((lineV xs).sz), u48])] := Hold.t H21 cq57
    clear H21
    clear cq57
    refine r (nt rfl) (re ?_)
    refine cf ((rfl : _ = Value.bool (!(decide (((lineV xs).kind, ((lineV xs).ck, (lineV xs).nm, (lineV xs).dt, (lineV xs).sz), (lineV xs).ns) = ((lineV xs).kind, ((lineV xs).ck, (lineV xs).nm, (lineV xs).dt, (lineV xs).sz), (lineV xs).ns))))).trans (congrArg Value.bool (show (!(decide (((lineV xs).kind, ((lineV xs).ck, (lineV xs).nm, (lineV xs).dt, (lineV xs).sz), (lineV xs).ns) = ((lineV xs).kind, ((lineV xs).ck, (lineV xs).nm, (lineV xs).dt, (lineV xs).sz), (lineV xs).ns)))) = false from (by rw [decide_eq_true rfl]; rfl)))) ?_
    refine sk (sq ?_)
    refine gen (fun ρ => ρ 2 = .bool false ∧ True) ⟨z2, trivial⟩ ?_
    rintro ρ ⟨z2, -⟩
    refine rg (r (sa rfl) (re (rt ?_)))
    exact fin1 (v := .bool true) Tryd.results6 rfl ⟨rfl, Hold.ch H22⟩
end Go.Proofs.YtgpcanjmgdmdhaaDoor
