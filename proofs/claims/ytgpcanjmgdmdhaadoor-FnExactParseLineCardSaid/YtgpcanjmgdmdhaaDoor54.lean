/-
  CONTRACTS 54: drawn counts, drawn tables. No condition.
-/
import Derived.Test.YtgpcanjmgdmdhaaDoor30
import Derived.Test.YtgpcanjmgdmdhaaDoorMap
namespace Go.Eng
theorem fin3 {P : Program} {n : Nat} {ρ : Fr} {w : World} {fn : Func} {Φ : Value → World → Prop} {t u x : Nat} {v v' v2 : Value} (hr : fn.results = #[.tmp t, .tmp u, .tmp x]) (hv : ρ t = v) (hv' : ρ u = v') (hv2 : ρ x = v2) (h : Φ (.tuple #[v, v', v2]) w) : S P n [] (Fin P fn Φ) ρ [] w :=
  fing (v := .tuple #[v, v', v2]) (fun tmps ht => by
    have e1 := (ht t).trans hv
    have e2 := (ht u).trans hv'
    have e3 := (ht x).trans hv2
    simp only [Array.getD_eq_getD_getElem?] at e1 e2 e3
    simp [results, hr, e1, e2, e3]) h
end Go.Eng
namespace Go.Proofs.YtgpcanjmgdmdhaaDoor
open Go Go.Eng
set_option maxRecDepth 100000
set_option maxHeartbeats 4000000
set_option linter.unusedVariables false
set_option linter.unusedSimpArgs false
theorem l2DrawTable {w : World} {F : List Nat} {g : Nat} {v : Value} {s : Src} (h : Hs w [rB g 141 [v, .int .i64 (s.pt : Int), .int .i64 s.mix, .int .i64 s.size], rR u8 5 v s.code] F) (nd : F.Nodup) (ok : SrcOk s) : Ret Tryd.prog 56 #[.pointer (some ⟨g, 0, none⟩)] w (fun r w' => ∃ (t : List (Int × Bool)) (s' : Src), t.length ≤ 2000 ∧ SrcOk s' ∧ Hold w F w' [rB g 141 [v, .int .i64 (s'.pt : Int), .int .i64 s'.mix, .int .i64 s'.size], rR u8 5 v s'.code, rR kE 44 r t]) := by
  refine enter Tryd.func56 rfl Tryd.ntmps56 (by rfl) (by rfl) ?_
  have H0 : Hold w F w [rB g 141 ([v, .int .i64 (s.pt : Int), .int .i64 s.mix, .int .i64 s.size]), rR u8 5 v s.code] := Hold.begin h nd
  have da1 := nx_0 (n := 12) ok
  have dc1 := nx_1 (s := s) (n := 12) (by omega)
  have do1 := nx_ok (n := 12) ok
  obtain ⟨dz1, hz1⟩ : ∃ z, z = (nx s 12).1 := ⟨_, rfl⟩
  obtain ⟨ds1, hs1⟩ : ∃ z, z = (nx s 12).2 := ⟨_, rfl⟩
  rw [← hz1] at da1 dc1
  rw [← hs1] at do1
  obtain ⟨m, hm1⟩ : ∃ m : Nat, dz1 = (m : Int) := ⟨dz1.toNat, by omega⟩
  refine sq (rg (r (sa rfl) (re (sq (rg (ef (xbs0 (dk := kE) Tryd.underlying37 ti44) ?_))))))
  rintro v2 w2 N2
  have H1 : Hold w F w2 [rB g 141 ([v, .int .i64 (s.pt : Int), .int .i64 s.mix, .int .i64 s.size]), rR u8 5 v s.code, rR kE 44 v2 ([])] := Hold.newr H0 N2
  clear H0
  obtain ⟨F3, hF3, n3, s3, K3⟩ := Hold.front (Γ := [rB g 141 ([v, .int .i64 (s.pt : Int), .int .i64 s.mix, .int .i64 s.size]), rR u8 5 v s.code]) (Δ := [rR kE 44 v2 ([])]) H1
  refine r (sa rfl) (re (sq (sq (rg (r (mv rfl) (cl go91 (l1Next (s := s) (m := 12) hF3 n3 ok (by omega)) (ac rfl (ac rfl an)) ?_))))))
  rintro r wn1 ⟨er1, Hn1⟩
  rw [← hz1, hm1] at er1
  rw [← hs1] at Hn1
  subst er1
  have H2 : Hold w F wn1 [rB g 141 ([v, .int .i64 (ds1.pt : Int), .int .i64 ds1.mix, .int .i64 ds1.size]), rR u8 5 v ds1.code, rR kE 44 v2 ([])] := Hold.call K3 Hn1
  clear H1
  clear K3 hF3 n3 s3
  clear Hn1
  refine r (sa rfl) (re (bl ?_))
  refine lp (α := Nat × Value × List (Int × Bool) × Src) (fun (j, o, t, s1) ρ w' => ρ 0 = .pointer (some ⟨g, 0, none⟩) ∧ ρ 3 = o ∧ ρ 4 = .int .i64 ((m : Int) - (j : Int)) ∧ Hold w F w' [rB g 141 ([v, .int .i64 (s1.pt : Int), .int .i64 s1.mix, .int .i64 s1.size]), rR u8 5 v s1.code, rR kE 44 o t] ∧ j ≤ m ∧ t.length = j ∧ SrcOk s1) (fun (j, o, t, s1) => m - j) (0, v2, [], ds1) ?_ ?_
  · exact ⟨rfl, rfl, (show _ = Value.int .i64 (m : Int) from rfl).trans (by simp), H2, ⟨by omega, rfl, do1⟩⟩
  clear H2
  rintro ⟨j, o, t, s1⟩ ρ w503 ⟨y0, y3, y4, H3, ⟨hj, hcs, ok1⟩⟩
  refine sq (sq (rg (r (mv y4) (r (bi rfl rfl rfl) (re ?_)))))
  refine cp rfl (fun h => ?_) (fun h => ?_)
  · have da4 := nx_0 (n := 40) ok1
    have dc4 := nx_1 (s := s1) (n := 40) (by omega)
    have do4 := nx_ok (n := 40) ok1
    obtain ⟨dz4, hz4⟩ : ∃ z, z = (nx s1 40).1 := ⟨_, rfl⟩
    obtain ⟨ds4, hs4⟩ : ∃ z, z = (nx s1 40).2 := ⟨_, rfl⟩
    rw [← hz4] at da4 dc4
    rw [← hs4] at do4
    have da5 := nx_0 (n := 3) do4
    have dc5 := nx_1 (s := ds4) (n := 3) (by omega)
    have do5 := nx_ok (n := 3) do4
    obtain ⟨dz5, hz5⟩ : ∃ z, z = (nx ds4 3).1 := ⟨_, rfl⟩
    obtain ⟨ds5, hs5⟩ : ∃ z, z = (nx ds4 3).2 := ⟨_, rfl⟩
    rw [← hz5] at da5 dc5
    rw [← hs5] at do5
    obtain ⟨F6, hF6, n6, s6, K6⟩ := Hold.front (Γ := [rB g 141 ([v, .int .i64 (s1.pt : Int), .int .i64 s1.mix, .int .i64 s1.size]), rR u8 5 v s1.code]) (Δ := [rR kE 44 o t]) H3
    refine sk (sq (bl (sq (rg (r (mv y0) (cl go91 (l1Next (s := s1) (m := 40) hF6 n6 ok1 (by omega)) (ac rfl (ac rfl an)) ?_))))))
    rintro r wn4 ⟨er4, Hn4⟩
    rw [← hz4] at er4
    rw [← hs4] at Hn4
    subst er4
    have H4 : Hold w F wn4 [rB g 141 ([v, .int .i64 (ds4.pt : Int), .int .i64 ds4.mix, .int .i64 ds4.size]), rR u8 5 v ds4.code, rR kE 44 o t] := Hold.call K6 Hn4
    clear H3
    clear K6 hF6 n6 s6
    clear Hn4
    obtain ⟨F7, hF7, n7, s7, K7⟩ := Hold.front (Γ := [rB g 141 ([v, .int .i64 (ds4.pt : Int), .int .i64 ds4.mix, .int .i64 ds4.size]), rR u8 5 v ds4.code]) (Δ := [rR kE 44 o t]) H4
    refine r (mv y0) (cl go91 (l1Next (s := ds4) (m := 3) hF7 n7 do4 (by omega)) (ac rfl (ac rfl an)) ?_)
    rintro r wn5 ⟨er5, Hn5⟩
    rw [← hz5] at er5
    rw [← hs5] at Hn5
    subst er5
    have H5 : Hold w F wn5 [rB g 141 ([v, .int .i64 (ds5.pt : Int), .int .i64 ds5.mix, .int .i64 ds5.size]), rR u8 5 v ds5.code, rR kE 44 o t] := Hold.call K7 Hn5
    clear H4
    clear K7 hF7 n7 s7
    clear Hn5
    refine r (bi rfl rfl rfl) (r (bd (r := [.int .i64 dz4, .bool (decide (dz5 = 0))]) ti44 pl44 (pc rfl (cel1 rfl) (pc rfl (cel1 rfl) pn)) rfl) (ef (xal ti44) ?_))
    rintro _ w8 ⟨g5, e8, rfl, -, b8, c8⟩
    have H6 : Hold w F w8 [rB g 141 ([v, .int .i64 (ds5.pt : Int), .int .i64 ds5.mix, .int .i64 ds5.size]), rR u8 5 v ds5.code, rR kE 44 o t, rB g5 44 ([.int .i64 0, .bool false])] := Hold.newB H5 e8 b8 c8
    clear H5
    clear e8 b8 c8
    have b9 : B w8 g5 44 ([.int .i64 0, .bool false]) := Hold.blk H6 3 rfl
    refine ef0 (xst (vs := [.int .i64 dz4, .bool (decide (dz5 = 0))]) ti44 rfl rfl rfl b9 rfl (Nat.le_of_ble_eq_true rfl) (one_all rfl)) ?_
    rintro w10 ⟨-, b10, c10⟩
    have H7 : Hold w F w10 [rB g 141 ([v, .int .i64 (ds5.pt : Int), .int .i64 ds5.mix, .int .i64 ds5.size]), rR u8 5 v ds5.code, rR kE 44 o t, rB g5 44 ([.int .i64 dz4, .bool (decide (dz5 = 0))])] := Hold.setB H6 3 rfl b10 c10 rfl
    clear H6
    clear b10 c10
    have b11 : B w10 g5 44 ([.int .i64 dz4, .bool (decide (dz5 = 0))]) := Hold.blk H7 3 rfl
    refine re (sq (sq (rg (r (fa Tryd.underlying44 rfl ti2 rfl rfl) (r (ldb Tryd.underlying2 rfl rfl b11 rfl) (r (bi rfl rfl rfl) (re ?_)))))))
    refine cp rfl (fun h2 => ?_) (fun h2 => ?_)
    · refine gen (fun ρ => ρ 0 = .pointer (some ⟨g, 0, none⟩) ∧ ρ 3 = o ∧ ρ 4 = .int .i64 ((m : Int) - (j : Int)) ∧ ρ 5 = .pointer (some ⟨g5, 0, none⟩) ∧ True) ⟨y0, y3, y4, rfl, trivial⟩ ?_
      rintro ρ ⟨z0, z3, z4, z5, -⟩
      refine rg (r (bd (r := [.int .i64 0, .bool false]) ti44 pl44 pn rfl) (ef0 (xst (vs := [.int .i64 0, .bool false]) ti44 z5 rfl rfl b11 rfl (Nat.le_of_ble_eq_true rfl) (one_all rfl)) ?_))
      rintro w12 ⟨-, b12, c12⟩
      have H8 : Hold w F w12 [rB g 141 ([v, .int .i64 (ds5.pt : Int), .int .i64 ds5.mix, .int .i64 ds5.size]), rR u8 5 v ds5.code, rR kE 44 o t, rB g5 44 ([.int .i64 0, .bool false])] := Hold.setB H7 3 rfl b12 c12 rfl
      clear H7
      clear b12 c12
      refine re (sq (sq (rg (r (mv z0) ?_))))
      have da13 := nx_0 (n := 30) do5
      have dc13 := nx_1 (s := ds5) (n := 30) (by omega)
      have do13 := nx_ok (n := 30) do5
      obtain ⟨dz13, hz13⟩ : ∃ z, z = (nx ds5 30).1 := ⟨_, rfl⟩
      obtain ⟨ds13, hs13⟩ : ∃ z, z = (nx ds5 30).2 := ⟨_, rfl⟩
      rw [← hz13] at da13 dc13
      rw [← hs13] at do13
      obtain ⟨F14, hF14, n14, s14, K14⟩ := Hold.front (Γ := [rB g 141 ([v, .int .i64 (ds5.pt : Int), .int .i64 ds5.mix, .int .i64 ds5.size]), rR u8 5 v ds5.code]) (Δ := [rR kE 44 o t, rB g5 44 ([.int .i64 0, .bool false])]) H8
      refine cl go91 (l1Next (s := ds5) (m := 30) hF14 n14 do5 (by omega)) (ac rfl (ac rfl an)) ?_
      rintro r wn13 ⟨er13, Hn13⟩
      rw [← hz13] at er13
      rw [← hs13] at Hn13
      subst er13
      have H9 : Hold w F wn13 [rB g 141 ([v, .int .i64 (ds13.pt : Int), .int .i64 ds13.mix, .int .i64 ds13.size]), rR u8 5 v ds13.code, rR kE 44 o t, rB g5 44 ([.int .i64 0, .bool false])] := Hold.call K14 Hn13
      clear H8
      clear K14 hF14 n14 s14
      clear Hn13
      refine r (bi rfl rfl rfl) (re ?_)
      refine cp rfl (fun h3 => ?_) (fun h3 => ?_)
      · have da15 := nx_0 (n := 2) do13
        have dc15 := nx_1 (s := ds13) (n := 2) (by omega)
        have do15 := nx_ok (n := 2) do13
        obtain ⟨dz15, hz15⟩ : ∃ z, z = (nx ds13 2).1 := ⟨_, rfl⟩
        obtain ⟨ds15, hs15⟩ : ∃ z, z = (nx ds13 2).2 := ⟨_, rfl⟩
        rw [← hz15] at da15 dc15
        rw [← hs15] at do15
        obtain ⟨F16, hF16, n16, s16, K16⟩ := Hold.front (Γ := [rB g 141 ([v, .int .i64 (ds13.pt : Int), .int .i64 ds13.mix, .int .i64 ds13.size]), rR u8 5 v ds13.code]) (Δ := [rR kE 44 o t, rB g5 44 ([.int .i64 0, .bool false])]) H9
        refine rg (r (mv z0) (cl go91 (l1Next (s := ds13) (m := 2) hF16 n16 do13 (by omega)) (ac rfl (ac rfl an)) ?_))
        rintro r wn15 ⟨er15, Hn15⟩
        rw [← hz15] at er15
        rw [← hs15] at Hn15
        subst er15
        have H10 : Hold w F wn15 [rB g 141 ([v, .int .i64 (ds15.pt : Int), .int .i64 ds15.mix, .int .i64 ds15.size]), rR u8 5 v ds15.code, rR kE 44 o t, rB g5 44 ([.int .i64 0, .bool false])] := Hold.call K16 Hn15
        clear H9
        clear K16 hF16 n16 s16
        clear Hn15
        have b17 : B wn15 g5 44 ([.int .i64 0, .bool false]) := Hold.blk H10 3 rfl
        refine r (ad (a := 32767) (b := dz15) (32767 + dz15) rfl rfl (by omega)) (r (fa Tryd.underlying44 rfl ti2 rfl z5) (ef0 (xst (vs := [.int .i64 (32767 + dz15)]) ti2 rfl rfl (cel1 rfl) b17 rfl (Nat.le_of_ble_eq_true rfl) (one_all rfl)) ?_))
        rintro w18 ⟨-, b18, c18⟩
        have H11 : Hold w F w18 [rB g 141 ([v, .int .i64 (ds15.pt : Int), .int .i64 ds15.mix, .int .i64 ds15.size]), rR u8 5 v ds15.code, rR kE 44 o t, rB g5 44 ([.int .i64 (32767 + dz15), .bool false])] := Hold.setB H10 3 rfl b18 c18 rfl
        clear H10
        clear b18 c18
        have b19 : B w18 g5 44 ([.int .i64 (32767 + dz15), .bool false]) := Hold.blk H11 3 rfl
        refine re (rg (r (mv z3) (r (lab [.int .i64 (32767 + dz15), .bool false] Tryd.underlying44 rfl ti44 z5 b19 rfl rfl) (ef (xbs1 (cs := [.int .i64 (32767 + dz15), .bool false]) Tryd.underlying37 ti44 rfl rfl rfl rfl rfl) ?_))))
        rintro _ w20 ⟨g33, e20, rfl, -, b20, c20⟩
        have H12 : Hold w F w20 [rB g 141 ([v, .int .i64 (ds15.pt : Int), .int .i64 ds15.mix, .int .i64 ds15.size]), rR u8 5 v ds15.code, rR kE 44 o t, rB g5 44 ([.int .i64 (32767 + dz15), .bool false]), rB g33 44 ([.int .i64 (32767 + dz15), .bool false])] := Hold.newB H11 e20 b20 c20
        clear H11
        clear e20 b20 c20
        have b22 : B w20 g33 44 ([.int .i64 (32767 + dz15), .bool false]) := Hold.blk H12 4 rfl
        obtain ⟨F23, P23, n23, s23, K23⟩ := Hold.pick H12 2 rfl
        replace P23 : Kd.W kE 44 w20 F23 o t := P23
        refine ef (xapb (ys := [(32767 + dz15, false)]) Tryd.underlying37 ti44 rfl rfl rfl P23 b22 (els_one (R := Kd.O kE _) (show Kd.O kE _ [] (32767 + dz15, false) _ from ⟨[], [], [_], [_], rfl, rfl, ⟨rfl, rfl⟩, ⟨rfl, rfl⟩⟩)) (nodup_nil n23) (by simp; omega)) ?_
        rintro v34_21 w21 ⟨F21, A21⟩
        have H13 : Hold w F w21 [rB g 141 ([v, .int .i64 (ds15.pt : Int), .int .i64 ds15.mix, .int .i64 ds15.size]), rR u8 5 v ds15.code, rR kE 44 v34_21 (t ++ [(32767 + dz15, false)]), rB g5 44 ([.int .i64 (32767 + dz15), .bool false]), rB g33 44 ([.int .i64 (32767 + dz15), .bool false])] := Hold.apd K23 P23 A21 rfl
        clear H12
        clear A21 K23 P23 n23 s23
        refine r (sa rfl) (re (be ?_))
        refine gen (fun ρ => ρ 0 = .pointer (some ⟨g, 0, none⟩) ∧ ρ 3 = v34_21 ∧ ρ 4 = .int .i64 ((m : Int) - (j : Int)) ∧ True) ⟨z0, rfl, z4, trivial⟩ ?_
        rintro ρ ⟨z0, z3, z4, -⟩
        refine rg (r (mv z4) (r (sb (a := (m : Int) - (j : Int)) (b := 1) ((m : Int) - ((j + 1 : Nat) : Int)) rfl rfl (by omega)) (r (sa rfl) (re ?_))))
        have H14 : Hold w F w21 [rB g 141 ([v, .int .i64 (ds15.pt : Int), .int .i64 ds15.mix, .int .i64 ds15.size]), rR u8 5 v ds15.code, rR kE 44 v34_21 (t ++ [(32767 + dz15, false)])] := (show Hold w F w21 ([rB g 141 ([v, .int .i64 (ds15.pt : Int), .int .i64 ds15.mix, .int .i64 ds15.size]), rR u8 5 v ds15.code, rR kE 44 v34_21 (t ++ [(32767 + dz15, false)])] ++ [rB g5 44 ([.int .i64 (32767 + dz15), .bool false]), rB g33 44 ([.int .i64 (32767 + dz15), .bool false])]) from Hold.re H13 [0, 1, 2, 3, 4] (by kernel_rfl) (by rfl)).drop
        clear H13
        exact ag (j + 1, v34_21, t ++ [(32767 + dz15, false)], ds15) ⟨z0, z3, rfl, H14, ⟨by omega, by simp; omega, do15⟩⟩ (by first | omega | (dsimp only; omega))
      · have b15 : B wn13 g5 44 ([.int .i64 0, .bool false]) := Hold.blk H9 3 rfl
        refine sk (rg (r (mv z3) (r (lab [.int .i64 0, .bool false] Tryd.underlying44 rfl ti44 z5 b15 rfl rfl) (ef (xbs1 (cs := [.int .i64 0, .bool false]) Tryd.underlying37 ti44 rfl rfl rfl rfl rfl) ?_))))
        rintro _ w16 ⟨g33, e16, rfl, -, b16, c16⟩
        have H10 : Hold w F w16 [rB g 141 ([v, .int .i64 (ds13.pt : Int), .int .i64 ds13.mix, .int .i64 ds13.size]), rR u8 5 v ds13.code, rR kE 44 o t, rB g5 44 ([.int .i64 0, .bool false]), rB g33 44 ([.int .i64 0, .bool false])] := Hold.newB H9 e16 b16 c16
        clear H9
        clear e16 b16 c16
        have b18 : B w16 g33 44 ([.int .i64 0, .bool false]) := Hold.blk H10 4 rfl
        obtain ⟨F19, P19, n19, s19, K19⟩ := Hold.pick H10 2 rfl
        replace P19 : Kd.W kE 44 w16 F19 o t := P19
        refine ef (xapb (ys := [(0, false)]) Tryd.underlying37 ti44 rfl rfl rfl P19 b18 (els_one (R := Kd.O kE _) (show Kd.O kE _ [] (0, false) _ from ⟨[], [], [_], [_], rfl, rfl, ⟨rfl, rfl⟩, ⟨rfl, rfl⟩⟩)) (nodup_nil n19) (by simp; omega)) ?_
        rintro v34_17 w17 ⟨F17, A17⟩
        have H11 : Hold w F w17 [rB g 141 ([v, .int .i64 (ds13.pt : Int), .int .i64 ds13.mix, .int .i64 ds13.size]), rR u8 5 v ds13.code, rR kE 44 v34_17 (t ++ [(0, false)]), rB g5 44 ([.int .i64 0, .bool false]), rB g33 44 ([.int .i64 0, .bool false])] := Hold.apd K19 P19 A17 rfl
        clear H10
        clear A17 K19 P19 n19 s19
        refine r (sa rfl) (re (be (rg (r (mv z4) (r (sb (a := (m : Int) - (j : Int)) (b := 1) ((m : Int) - ((j + 1 : Nat) : Int)) rfl rfl (by omega)) (r (sa rfl) (re ?_)))))))
        have H12 : Hold w F w17 [rB g 141 ([v, .int .i64 (ds13.pt : Int), .int .i64 ds13.mix, .int .i64 ds13.size]), rR u8 5 v ds13.code, rR kE 44 v34_17 (t ++ [(0, false)])] := (show Hold w F w17 ([rB g 141 ([v, .int .i64 (ds13.pt : Int), .int .i64 ds13.mix, .int .i64 ds13.size]), rR u8 5 v ds13.code, rR kE 44 v34_17 (t ++ [(0, false)])] ++ [rB g5 44 ([.int .i64 0, .bool false]), rB g33 44 ([.int .i64 0, .bool false])]) from Hold.re H11 [0, 1, 2, 3, 4] (by kernel_rfl) (by rfl)).drop
        clear H11
        exact ag (j + 1, v34_17, t ++ [(0, false)], ds13) ⟨z0, rfl, rfl, H12, ⟨by omega, by simp; omega, do13⟩⟩ (by first | omega | (dsimp only; omega))
    · have da12 := nx_0 (n := 30) do5
      have dc12 := nx_1 (s := ds5) (n := 30) (by omega)
      have do12 := nx_ok (n := 30) do5
      obtain ⟨dz12, hz12⟩ : ∃ z, z = (nx ds5 30).1 := ⟨_, rfl⟩
      obtain ⟨ds12, hs12⟩ : ∃ z, z = (nx ds5 30).2 := ⟨_, rfl⟩
      rw [← hz12] at da12 dc12
      rw [← hs12] at do12
      refine sk (sq (sq ?_))
      refine gen (fun ρ => ρ 0 = .pointer (some ⟨g, 0, none⟩) ∧ ρ 3 = o ∧ ρ 4 = .int .i64 ((m : Int) - (j : Int)) ∧ ρ 5 = .pointer (some ⟨g5, 0, none⟩) ∧ True) ⟨y0, y3, y4, rfl, trivial⟩ ?_
      rintro ρ ⟨z0, z3, z4, z5, -⟩
      obtain ⟨F13, hF13, n13, s13, K13⟩ := Hold.front (Γ := [rB g 141 ([v, .int .i64 (ds5.pt : Int), .int .i64 ds5.mix, .int .i64 ds5.size]), rR u8 5 v ds5.code]) (Δ := [rR kE 44 o t, rB g5 44 ([.int .i64 dz4, .bool (decide (dz5 = 0))])]) H7
      refine rg (r (mv z0) (cl go91 (l1Next (s := ds5) (m := 30) hF13 n13 do5 (by omega)) (ac rfl (ac rfl an)) ?_))
      rintro r wn12 ⟨er12, Hn12⟩
      rw [← hz12] at er12
      rw [← hs12] at Hn12
      subst er12
      have H8 : Hold w F wn12 [rB g 141 ([v, .int .i64 (ds12.pt : Int), .int .i64 ds12.mix, .int .i64 ds12.size]), rR u8 5 v ds12.code, rR kE 44 o t, rB g5 44 ([.int .i64 dz4, .bool (decide (dz5 = 0))])] := Hold.call K13 Hn12
      clear H7
      clear K13 hF13 n13 s13
      clear Hn12
      refine r (bi rfl rfl rfl) (re ?_)
      refine cp rfl (fun h3 => ?_) (fun h3 => ?_)
      · have da14 := nx_0 (n := 2) do12
        have dc14 := nx_1 (s := ds12) (n := 2) (by omega)
        have do14 := nx_ok (n := 2) do12
        obtain ⟨dz14, hz14⟩ : ∃ z, z = (nx ds12 2).1 := ⟨_, rfl⟩
        obtain ⟨ds14, hs14⟩ : ∃ z, z = (nx ds12 2).2 := ⟨_, rfl⟩
        rw [← hz14] at da14 dc14
        rw [← hs14] at do14
        obtain ⟨F15, hF15, n15, s15, K15⟩ := Hold.front (Γ := [rB g 141 ([v, .int .i64 (ds12.pt : Int), .int .i64 ds12.mix, .int .i64 ds12.size]), rR u8 5 v ds12.code]) (Δ := [rR kE 44 o t, rB g5 44 ([.int .i64 dz4, .bool (decide (dz5 = 0))])]) H8
        refine rg (r (mv z0) (cl go91 (l1Next (s := ds12) (m := 2) hF15 n15 do12 (by omega)) (ac rfl (ac rfl an)) ?_))
        rintro r wn14 ⟨er14, Hn14⟩
        rw [← hz14] at er14
        rw [← hs14] at Hn14
        subst er14
        have H9 : Hold w F wn14 [rB g 141 ([v, .int .i64 (ds14.pt : Int), .int .i64 ds14.mix, .int .i64 ds14.size]), rR u8 5 v ds14.code, rR kE 44 o t, rB g5 44 ([.int .i64 dz4, .bool (decide (dz5 = 0))])] := Hold.call K15 Hn14
        clear H8
        clear K15 hF15 n15 s15
        clear Hn14
        have b16 : B wn14 g5 44 ([.int .i64 dz4, .bool (decide (dz5 = 0))]) := Hold.blk H9 3 rfl
        refine r (ad (a := 32767) (b := dz14) (32767 + dz14) rfl rfl (by omega)) (r (fa Tryd.underlying44 rfl ti2 rfl z5) (ef0 (xst (vs := [.int .i64 (32767 + dz14)]) ti2 rfl rfl (cel1 rfl) b16 rfl (Nat.le_of_ble_eq_true rfl) (one_all rfl)) ?_))
        rintro w17 ⟨-, b17, c17⟩
        have H10 : Hold w F w17 [rB g 141 ([v, .int .i64 (ds14.pt : Int), .int .i64 ds14.mix, .int .i64 ds14.size]), rR u8 5 v ds14.code, rR kE 44 o t, rB g5 44 ([.int .i64 (32767 + dz14), .bool (decide (dz5 = 0))])] := Hold.setB H9 3 rfl b17 c17 rfl
        clear H9
        clear b17 c17
        have b18 : B w17 g5 44 ([.int .i64 (32767 + dz14), .bool (decide (dz5 = 0))]) := Hold.blk H10 3 rfl
        refine re (rg (r (mv z3) (r (lab [.int .i64 (32767 + dz14), .bool (decide (dz5 = 0))] Tryd.underlying44 rfl ti44 z5 b18 rfl rfl) (ef (xbs1 (cs := [.int .i64 (32767 + dz14), .bool (decide (dz5 = 0))]) Tryd.underlying37 ti44 rfl rfl rfl rfl rfl) ?_))))
        rintro _ w19 ⟨g33, e19, rfl, -, b19, c19⟩
        have H11 : Hold w F w19 [rB g 141 ([v, .int .i64 (ds14.pt : Int), .int .i64 ds14.mix, .int .i64 ds14.size]), rR u8 5 v ds14.code, rR kE 44 o t, rB g5 44 ([.int .i64 (32767 + dz14), .bool (decide (dz5 = 0))]), rB g33 44 ([.int .i64 (32767 + dz14), .bool (decide (dz5 = 0))])] := Hold.newB H10 e19 b19 c19
        clear H10
        clear e19 b19 c19
        have b21 : B w19 g33 44 ([.int .i64 (32767 + dz14), .bool (decide (dz5 = 0))]) := Hold.blk H11 4 rfl
        obtain ⟨F22, P22, n22, s22, K22⟩ := Hold.pick H11 2 rfl
        replace P22 : Kd.W kE 44 w19 F22 o t := P22
        refine ef (xapb (ys := [(32767 + dz14, decide (dz5 = 0))]) Tryd.underlying37 ti44 rfl rfl rfl P22 b21 (els_one (R := Kd.O kE _) (show Kd.O kE _ [] (32767 + dz14, decide (dz5 = 0)) _ from ⟨[], [], [_], [_], rfl, rfl, ⟨rfl, rfl⟩, ⟨rfl, rfl⟩⟩)) (nodup_nil n22) (by simp; omega)) ?_
        rintro v34_20 w20 ⟨F20, A20⟩
        have H12 : Hold w F w20 [rB g 141 ([v, .int .i64 (ds14.pt : Int), .int .i64 ds14.mix, .int .i64 ds14.size]), rR u8 5 v ds14.code, rR kE 44 v34_20 (t ++ [(32767 + dz14, decide (dz5 = 0))]), rB g5 44 ([.int .i64 (32767 + dz14), .bool (decide (dz5 = 0))]), rB g33 44 ([.int .i64 (32767 + dz14), .bool (decide (dz5 = 0))])] := Hold.apd K22 P22 A20 rfl
        clear H11
        clear A20 K22 P22 n22 s22
        refine r (sa rfl) (re (be ?_))
        refine gen (fun ρ => ρ 0 = .pointer (some ⟨g, 0, none⟩) ∧ ρ 3 = v34_20 ∧ ρ 4 = .int .i64 ((m : Int) - (j : Int)) ∧ True) ⟨z0, rfl, z4, trivial⟩ ?_
        rintro ρ ⟨z0, z3, z4, -⟩
        refine rg (r (mv z4) (r (sb (a := (m : Int) - (j : Int)) (b := 1) ((m : Int) - ((j + 1 : Nat) : Int)) rfl rfl (by omega)) (r (sa rfl) (re ?_))))
        have H13 : Hold w F w20 [rB g 141 ([v, .int .i64 (ds14.pt : Int), .int .i64 ds14.mix, .int .i64 ds14.size]), rR u8 5 v ds14.code, rR kE 44 v34_20 (t ++ [(32767 + dz14, decide (dz5 = 0))])] := (show Hold w F w20 ([rB g 141 ([v, .int .i64 (ds14.pt : Int), .int .i64 ds14.mix, .int .i64 ds14.size]), rR u8 5 v ds14.code, rR kE 44 v34_20 (t ++ [(32767 + dz14, decide (dz5 = 0))])] ++ [rB g5 44 ([.int .i64 (32767 + dz14), .bool (decide (dz5 = 0))]), rB g33 44 ([.int .i64 (32767 + dz14), .bool (decide (dz5 = 0))])]) from Hold.re H12 [0, 1, 2, 3, 4] (by kernel_rfl) (by rfl)).drop
        clear H12
        exact ag (j + 1, v34_20, t ++ [(32767 + dz14, decide (dz5 = 0))], ds14) ⟨z0, z3, rfl, H13, ⟨by omega, by simp; omega, do14⟩⟩ (by first | omega | (dsimp only; omega))
      · have b14 : B wn12 g5 44 ([.int .i64 dz4, .bool (decide (dz5 = 0))]) := Hold.blk H8 3 rfl
        refine sk (rg (r (mv z3) (r (lab [.int .i64 dz4, .bool (decide (dz5 = 0))] Tryd.underlying44 rfl ti44 z5 b14 rfl rfl) (ef (xbs1 (cs := [.int .i64 dz4, .bool (decide (dz5 = 0))]) Tryd.underlying37 ti44 rfl rfl rfl rfl rfl) ?_))))
        rintro _ w15 ⟨g33, e15, rfl, -, b15, c15⟩
        have H9 : Hold w F w15 [rB g 141 ([v, .int .i64 (ds12.pt : Int), .int .i64 ds12.mix, .int .i64 ds12.size]), rR u8 5 v ds12.code, rR kE 44 o t, rB g5 44 ([.int .i64 dz4, .bool (decide (dz5 = 0))]), rB g33 44 ([.int .i64 dz4, .bool (decide (dz5 = 0))])] := Hold.newB H8 e15 b15 c15
        clear H8
        clear e15 b15 c15
        have b17 : B w15 g33 44 ([.int .i64 dz4, .bool (decide (dz5 = 0))]) := Hold.blk H9 4 rfl
        obtain ⟨F18, P18, n18, s18, K18⟩ := Hold.pick H9 2 rfl
        replace P18 : Kd.W kE 44 w15 F18 o t := P18
        refine ef (xapb (ys := [(dz4, decide (dz5 = 0))]) Tryd.underlying37 ti44 rfl rfl rfl P18 b17 (els_one (R := Kd.O kE _) (show Kd.O kE _ [] (dz4, decide (dz5 = 0)) _ from ⟨[], [], [_], [_], rfl, rfl, ⟨rfl, rfl⟩, ⟨rfl, rfl⟩⟩)) (nodup_nil n18) (by simp; omega)) ?_
        rintro v34_16 w16 ⟨F16, A16⟩
        have H10 : Hold w F w16 [rB g 141 ([v, .int .i64 (ds12.pt : Int), .int .i64 ds12.mix, .int .i64 ds12.size]), rR u8 5 v ds12.code, rR kE 44 v34_16 (t ++ [(dz4, decide (dz5 = 0))]), rB g5 44 ([.int .i64 dz4, .bool (decide (dz5 = 0))]), rB g33 44 ([.int .i64 dz4, .bool (decide (dz5 = 0))])] := Hold.apd K18 P18 A16 rfl
        clear H9
        clear A16 K18 P18 n18 s18
        refine r (sa rfl) (re (be (rg (r (mv z4) (r (sb (a := (m : Int) - (j : Int)) (b := 1) ((m : Int) - ((j + 1 : Nat) : Int)) rfl rfl (by omega)) (r (sa rfl) (re ?_)))))))
        have H11 : Hold w F w16 [rB g 141 ([v, .int .i64 (ds12.pt : Int), .int .i64 ds12.mix, .int .i64 ds12.size]), rR u8 5 v ds12.code, rR kE 44 v34_16 (t ++ [(dz4, decide (dz5 = 0))])] := (show Hold w F w16 ([rB g 141 ([v, .int .i64 (ds12.pt : Int), .int .i64 ds12.mix, .int .i64 ds12.size]), rR u8 5 v ds12.code, rR kE 44 v34_16 (t ++ [(dz4, decide (dz5 = 0))])] ++ [rB g5 44 ([.int .i64 dz4, .bool (decide (dz5 = 0))]), rB g33 44 ([.int .i64 dz4, .bool (decide (dz5 = 0))])]) from Hold.re H10 [0, 1, 2, 3, 4] (by kernel_rfl) (by rfl)).drop
        clear H10
        exact ag (j + 1, v34_16, t ++ [(dz4, decide (dz5 = 0))], ds12) ⟨z0, rfl, rfl, H11, ⟨by omega, by simp; omega, do12⟩⟩ (by first | omega | (dsimp only; omega))
  · have hl : t.length ≤ 100 := by omega
    have da4 := nx_0 (n := 30) ok1
    have dc4 := nx_1 (s := s1) (n := 30) (by omega)
    have do4 := nx_ok (n := 30) ok1
    obtain ⟨dz4, hz4⟩ : ∃ z, z = (nx s1 30).1 := ⟨_, rfl⟩
    obtain ⟨ds4, hs4⟩ : ∃ z, z = (nx s1 30).2 := ⟨_, rfl⟩
    rw [← hz4] at da4 dc4
    rw [← hs4] at do4
    obtain ⟨F5, hF5, n5, s5, K5⟩ := Hold.front (Γ := [rB g 141 ([v, .int .i64 (s1.pt : Int), .int .i64 s1.mix, .int .i64 s1.size]), rR u8 5 v s1.code]) (Δ := [rR kE 44 o t]) H3
    refine ex rfl (sq (sq (rg (r (mv y0) (cl go91 (l1Next (s := s1) (m := 30) hF5 n5 ok1 (by omega)) (ac rfl (ac rfl an)) ?_)))))
    rintro r wn4 ⟨er4, Hn4⟩
    rw [← hz4] at er4
    rw [← hs4] at Hn4
    subst er4
    have H4 : Hold w F wn4 [rB g 141 ([v, .int .i64 (ds4.pt : Int), .int .i64 ds4.mix, .int .i64 ds4.size]), rR u8 5 v ds4.code, rR kE 44 o t] := Hold.call K5 Hn4
    clear H3
    clear K5 hF5 n5 s5
    clear Hn4
    refine r (bi rfl rfl rfl) (re ?_)
    refine cp rfl (fun h4 => ?_) (fun h4 => ?_)
    · have da6 := nx_0 (n := 2) do4
      have dc6 := nx_1 (s := ds4) (n := 2) (by omega)
      have do6 := nx_ok (n := 2) do4
      obtain ⟨dz6, hz6⟩ : ∃ z, z = (nx ds4 2).1 := ⟨_, rfl⟩
      obtain ⟨ds6, hs6⟩ : ∃ z, z = (nx ds4 2).2 := ⟨_, rfl⟩
      rw [← hz6] at da6 dc6
      rw [← hs6] at do6
      obtain ⟨q, hm6⟩ : ∃ m : Nat, dz6 = (m : Int) := ⟨dz6.toNat, by omega⟩
      obtain ⟨F7, hF7, n7, s7, K7⟩ := Hold.front (Γ := [rB g 141 ([v, .int .i64 (ds4.pt : Int), .int .i64 ds4.mix, .int .i64 ds4.size]), rR u8 5 v ds4.code]) (Δ := [rR kE 44 o t]) H4
      refine sq (rg (r (mv y0) (cl go91 (l1Next (s := ds4) (m := 2) hF7 n7 do4 (by omega)) (ac rfl (ac rfl an)) ?_)))
      rintro r wn6 ⟨er6, Hn6⟩
      rw [← hz6, hm6] at er6
      rw [← hs6] at Hn6
      subst er6
      have H5 : Hold w F wn6 [rB g 141 ([v, .int .i64 (ds6.pt : Int), .int .i64 ds6.mix, .int .i64 ds6.size]), rR u8 5 v ds6.code, rR kE 44 o t] := Hold.call K7 Hn6
      clear H4
      clear K7 hF7 n7 s7
      clear Hn6
      refine r (ad (a := 1024) (b := (q : Int)) (((1024 + q : Nat) : Int)) rfl rfl (by omega)) (r (sa rfl) (re (bl ?_)))
      refine lp (α := Nat × Value × List (Int × Bool)) (fun (j2, o, t) ρ w' => ρ 0 = .pointer (some ⟨g, 0, none⟩) ∧ ρ 3 = o ∧ ρ 6 = .int .i64 ((1024 + q : Nat) : Int) ∧ Hold w F w' [rB g 141 ([v, .int .i64 (ds6.pt : Int), .int .i64 ds6.mix, .int .i64 ds6.size]), rR u8 5 v ds6.code, rR kE 44 o t] ∧ t.length ≤ 1024 + q) (fun (j2, o, t) => 2000 - t.length) (0, o, t) ?_ ?_
      · exact ⟨y0, y3, rfl, H5, by omega⟩
      clear H5
      rintro ⟨j2, o, t⟩ ρ w506 ⟨y0, y3, y6, H6, hl2⟩
      obtain ⟨_, R8⟩ : ∃ F, Kd.R kE w506 F o t := Hold.row H6 2 rfl
      refine sq (sq (rg (r (mv y3) (r (ln Tryd.underlying37 rfl (R8)) (r (mv y6) (r (bi rfl rfl rfl) (re ?_)))))))
      refine cp rfl (fun h7 => ?_) (fun h7 => ?_)
      · refine sk (bl (rg (r (mv y3) (r (mv y3) (r (ln Tryd.underlying37 rfl (R8)) (r (bd (r := [.int .i64 (t.length : Int), .bool false]) ti44 pl44 (pc rfl (cel1 rfl) pn) rfl) (ef (xbs1 (cs := [.int .i64 (t.length : Int), .bool false]) Tryd.underlying37 ti44 rfl rfl rfl rfl rfl) ?_)))))))
        rintro _ w9 ⟨g49, e9, rfl, -, b9, c9⟩
        have H7 : Hold w F w9 [rB g 141 ([v, .int .i64 (ds6.pt : Int), .int .i64 ds6.mix, .int .i64 ds6.size]), rR u8 5 v ds6.code, rR kE 44 o t, rB g49 44 ([.int .i64 (t.length : Int), .bool false])] := Hold.newB H6 e9 b9 c9
        clear H6
        clear e9 b9 c9
        have b11 : B w9 g49 44 ([.int .i64 (t.length : Int), .bool false]) := Hold.blk H7 3 rfl
        obtain ⟨F12, P12, n12, s12, K12⟩ := Hold.pick H7 2 rfl
        replace P12 : Kd.W kE 44 w9 F12 o t := P12
        refine ef (xapb (ys := [((t.length : Int), false)]) Tryd.underlying37 ti44 rfl rfl rfl P12 b11 (els_one (R := Kd.O kE _) (show Kd.O kE _ [] ((t.length : Int), false) _ from ⟨[], [], [_], [_], rfl, rfl, ⟨rfl, rfl⟩, ⟨rfl, rfl⟩⟩)) (nodup_nil n12) (by simp; omega)) ?_
        rintro v50_10 w10 ⟨F10, A10⟩
        have H8 : Hold w F w10 [rB g 141 ([v, .int .i64 (ds6.pt : Int), .int .i64 ds6.mix, .int .i64 ds6.size]), rR u8 5 v ds6.code, rR kE 44 v50_10 (t ++ [((t.length : Int), false)]), rB g49 44 ([.int .i64 (t.length : Int), .bool false])] := Hold.apd K12 P12 A10 rfl
        clear H7
        clear A10 K12 P12 n12 s12
        refine r (sa rfl) (re (be ?_))
        have H9 : Hold w F w10 [rB g 141 ([v, .int .i64 (ds6.pt : Int), .int .i64 ds6.mix, .int .i64 ds6.size]), rR u8 5 v ds6.code, rR kE 44 v50_10 (t ++ [((t.length : Int), false)])] := (show Hold w F w10 ([rB g 141 ([v, .int .i64 (ds6.pt : Int), .int .i64 ds6.mix, .int .i64 ds6.size]), rR u8 5 v ds6.code, rR kE 44 v50_10 (t ++ [((t.length : Int), false)])] ++ [rB g49 44 ([.int .i64 (t.length : Int), .bool false])]) from Hold.re H8 [0, 1, 2, 3] (by kernel_rfl) (by rfl)).drop
        clear H8
        exact ag (j2, v50_10, t ++ [((t.length : Int), false)]) ⟨y0, rfl, y6, H9, by simp; omega⟩ (by simp; omega)
      · have hl3 : t.length ≤ 1026 := by omega
        refine ex rfl (sq (sq (rg (r (mv y3) (r (ln Tryd.underlying37 rfl (R8)) (r (bi rfl rfl rfl) (r (mv rfl) ?_)))))))
        refine sp 54 rfl (fun h5 => ?_) (fun h5 => ?_)
        · have da9 := nx_0 (n := 12) do6
          have dc9 := nx_1 (s := ds6) (n := 12) (by omega)
          have do9 := nx_ok (n := 12) do6
          obtain ⟨dz9, hz9⟩ : ∃ z, z = (nx ds6 12).1 := ⟨_, rfl⟩
          obtain ⟨ds9, hs9⟩ : ∃ z, z = (nx ds6 12).2 := ⟨_, rfl⟩
          rw [← hz9] at da9 dc9
          rw [← hs9] at do9
          obtain ⟨F10, hF10, n10, s10, K10⟩ := Hold.front (Γ := [rB g 141 ([v, .int .i64 (ds6.pt : Int), .int .i64 ds6.mix, .int .i64 ds6.size]), rR u8 5 v ds6.code]) (Δ := [rR kE 44 o t]) H6
          refine gy rfl rfl rfl (r (mv y0) (gy rfl rfl rfl (cl go91 (l1Next (s := ds6) (m := 12) hF10 n10 do6 (by omega)) (ac rfl (ac rfl an)) ?_)))
          rintro r wn9 ⟨er9, Hn9⟩
          rw [← hz9] at er9
          rw [← hs9] at Hn9
          subst er9
          have H7 : Hold w F wn9 [rB g 141 ([v, .int .i64 (ds9.pt : Int), .int .i64 ds9.mix, .int .i64 ds9.size]), rR u8 5 v ds9.code, rR kE 44 o t] := Hold.call K10 Hn9
          clear H6
          clear K10 hF10 n10 s10
          clear Hn9
          refine gy rfl rfl rfl (r (bi rfl rfl rfl) (r (pk rfl rfl) (re ?_)))
          refine cp rfl (fun h6 => ?_) (fun h6 => ?_)
          · refine gen (fun ρ => ρ 3 = o ∧ True) ⟨y3, trivial⟩ ?_
            rintro ρ ⟨z3, -⟩
            obtain ⟨F12, P12, n12, s12, K12⟩ := Hold.pick H7 2 rfl
            replace P12 : Kd.W kE 44 wn9 F12 o t := P12
            refine rg (r (mv z3) (r (bd (r := [.int .i64 0, .bool true]) ti44 pl44 (pc rfl (cel1 rfl) pn) rfl) (ixs (a := (0, true)) (j := 0) Tryd.underlying37 ti44 rfl P12 rfl (by omega) (fun _ => rfl) ⟨[], [], [_], [_], rfl, rfl, ⟨rfl, rfl⟩, ⟨rfl, rfl⟩⟩ (nodup_nil n12) ?_)))
            intro _ w11 F11 s11 A11
            have H8 : Hold w F w11 [rB g 141 ([v, .int .i64 (ds9.pt : Int), .int .i64 ds9.mix, .int .i64 ds9.size]), rR u8 5 v ds9.code, rR kE 44 o (t.set 0 (0, true))] := Hold.apd K12 P12 A11 rfl
            clear H7
            clear A11 K12 P12 n12 s12 s11
            refine re (sq (rg (r (mv z3) (r (sa rfl) (re (rt ?_))))))
            exact fin1 (v := o) Tryd.results56 rfl ⟨_, _, (by first | omega | (simp; omega)), do9, H8⟩
          · refine sk (sq ?_)
            refine gen (fun ρ => ρ 3 = o ∧ True) ⟨y3, trivial⟩ ?_
            rintro ρ ⟨z3, -⟩
            refine rg (r (mv z3) (r (sa rfl) (re (rt ?_))))
            exact fin1 (v := o) Tryd.results56 rfl ⟨_, _, (by first | omega | (simp; omega)), do9, H7⟩
        · refine gn rfl rfl rfl (gn rfl rfl rfl (gn rfl rfl rfl (r (pk rfl rfl) (re (cf rfl (sk (sq ?_)))))))
          refine gen (fun ρ => ρ 3 = o ∧ True) ⟨y3, trivial⟩ ?_
          rintro ρ ⟨z3, -⟩
          refine rg (r (mv z3) (r (sa rfl) (re (rt ?_))))
          exact fin1 (v := o) Tryd.results56 rfl ⟨_, _, (by first | omega | (simp; omega)), do6, H6⟩
    · obtain ⟨_, R6⟩ : ∃ F, Kd.R kE wn4 F o t := Hold.row H4 2 rfl
      refine sk (sq (sq (rg (r (mv y3) (r (ln Tryd.underlying37 rfl (R6)) (r (bi rfl rfl rfl) (r (mv rfl) ?_)))))))
      refine sp 54 rfl (fun h5 => ?_) (fun h5 => ?_)
      · have da7 := nx_0 (n := 12) do4
        have dc7 := nx_1 (s := ds4) (n := 12) (by omega)
        have do7 := nx_ok (n := 12) do4
        obtain ⟨dz7, hz7⟩ : ∃ z, z = (nx ds4 12).1 := ⟨_, rfl⟩
        obtain ⟨ds7, hs7⟩ : ∃ z, z = (nx ds4 12).2 := ⟨_, rfl⟩
        rw [← hz7] at da7 dc7
        rw [← hs7] at do7
        obtain ⟨F8, hF8, n8, s8, K8⟩ := Hold.front (Γ := [rB g 141 ([v, .int .i64 (ds4.pt : Int), .int .i64 ds4.mix, .int .i64 ds4.size]), rR u8 5 v ds4.code]) (Δ := [rR kE 44 o t]) H4
        refine gy rfl rfl rfl (r (mv y0) (gy rfl rfl rfl (cl go91 (l1Next (s := ds4) (m := 12) hF8 n8 do4 (by omega)) (ac rfl (ac rfl an)) ?_)))
        rintro r wn7 ⟨er7, Hn7⟩
        rw [← hz7] at er7
        rw [← hs7] at Hn7
        subst er7
        have H5 : Hold w F wn7 [rB g 141 ([v, .int .i64 (ds7.pt : Int), .int .i64 ds7.mix, .int .i64 ds7.size]), rR u8 5 v ds7.code, rR kE 44 o t] := Hold.call K8 Hn7
        clear H4
        clear K8 hF8 n8 s8
        clear Hn7
        refine gy rfl rfl rfl (r (bi rfl rfl rfl) (r (pk rfl rfl) (re ?_)))
        refine cp rfl (fun h6 => ?_) (fun h6 => ?_)
        · refine gen (fun ρ => ρ 3 = o ∧ True) ⟨y3, trivial⟩ ?_
          rintro ρ ⟨z3, -⟩
          obtain ⟨F10, P10, n10, s10, K10⟩ := Hold.pick H5 2 rfl
          replace P10 : Kd.W kE 44 wn7 F10 o t := P10
          refine rg (r (mv z3) (r (bd (r := [.int .i64 0, .bool true]) ti44 pl44 (pc rfl (cel1 rfl) pn) rfl) (ixs (a := (0, true)) (j := 0) Tryd.underlying37 ti44 rfl P10 rfl (by omega) (fun _ => rfl) ⟨[], [], [_], [_], rfl, rfl, ⟨rfl, rfl⟩, ⟨rfl, rfl⟩⟩ (nodup_nil n10) ?_)))
          intro _ w9 F9 s9 A9
          have H6 : Hold w F w9 [rB g 141 ([v, .int .i64 (ds7.pt : Int), .int .i64 ds7.mix, .int .i64 ds7.size]), rR u8 5 v ds7.code, rR kE 44 o (t.set 0 (0, true))] := Hold.apd K10 P10 A9 rfl
          clear H5
          clear A9 K10 P10 n10 s10 s9
          refine re (sq (rg (r (mv z3) (r (sa rfl) (re (rt ?_))))))
          exact fin1 (v := o) Tryd.results56 rfl ⟨_, _, (by first | omega | (simp; omega)), do7, H6⟩
        · refine sk (sq ?_)
          refine gen (fun ρ => ρ 3 = o ∧ True) ⟨y3, trivial⟩ ?_
          rintro ρ ⟨z3, -⟩
          refine rg (r (mv z3) (r (sa rfl) (re (rt ?_))))
          exact fin1 (v := o) Tryd.results56 rfl ⟨_, _, (by first | omega | (simp; omega)), do7, H5⟩
      · refine gn rfl rfl rfl (gn rfl rfl rfl (gn rfl rfl rfl (r (pk rfl rfl) (re (cf rfl (sk (sq ?_)))))))
        refine gen (fun ρ => ρ 3 = o ∧ True) ⟨y3, trivial⟩ ?_
        rintro ρ ⟨z3, -⟩
        refine rg (r (mv z3) (r (sa rfl) (re (rt ?_))))
        exact fin1 (v := o) Tryd.results56 rfl ⟨_, _, (by first | omega | (simp; omega)), do4, H4⟩
end Go.Proofs.YtgpcanjmgdmdhaaDoor
