/-
  CONTRACTS 25: DecodeHeader. No condition.
-/
import Derived.Test.YtgpcanjmgdmdhaaDoor24
namespace Go.Proofs.YtgpcanjmgdmdhaaDoor
open Go Go.Eng
set_option maxRecDepth 100000
set_option maxHeartbeats 4000000
set_option linter.unusedVariables false
set_option linter.unusedSimpArgs false
/-- The three numbers that a header's bytes begin with. -/
def hq (xs : List Int) : Int := IntKind.i64.wrap (unbig (xs.take 8))
def hs_ (xs : List Int) : Int := IntKind.i64.wrap (unbig ((xs.drop 8).take 2))
def hb_ (xs : List Int) : Int := IntKind.i64.wrap (unbig ((xs.drop 10).take 2))
theorem DecodeHeader_1 {w : World} {G F : List Nat} {gs gh : Nat} {v : Value} {xs : List Int} (hs : Hs w [rB gs 102 [v], rB gh 46 [.int .i64 0, .int .i64 0, .int .i64 0]] F) (nd : F.Nodup) (hx : u8.R w G v xs) (hd : ∀ k, k ∈ G → k ∉ F) (lx : xs.length ≤ 1000000000) (ok : ok8 xs) :
    RetP Tryd.prog 63 #[.pointer (some ⟨gs, 0, none⟩), .pointer (some ⟨gh, 0, none⟩)] w (fun r w' => 12 ≤ xs.length ∧ Hold w F w' [rB gh 46 [.int .i64 (hq xs), .int .i64 (hs_ xs), .int .i64 (hb_ xs)]]) (fun c w' => xs.length < 12 ∧ c = [ranOut] ∧ Hold w F w' [rB gh 46 [.int .i64 0, .int .i64 0, .int .i64 0]]) := by
  refine enterP Tryd.func63 rfl Tryd.ntmps63 (by rfl) (by rfl) ?_
  have H0 : Hold w F w [rB gs 102 ([v]), rB gh 46 ([.int .i64 0, .int .i64 0, .int .i64 0])] := Hold.begin hs nd
  obtain ⟨F1, hF1, n1, s1, K1⟩ := Hold.front (Γ := [rB gs 102 ([v])]) (Δ := [rB gh 46 ([.int .i64 0, .int .i64 0, .int .i64 0])]) H0
  refine rg (r (mv rfl) (clp go44 (num (n := 8) hF1 n1 (hx.tt (Hold.ch H0) hd) (dis_of hx.lt hd s1) (by first | assumption | (simp; omega)) (by omega) (by first | exact ok | exact ok8_drop ok _)) (ac rfl (ac rfl an)) (fun c w2 a hp ha => FinP.panic (show _ ∧ _ ∧ _ from ⟨by have h9 := hp.1; (try simp only [List.length_drop] at *); omega, hp.2.1, (Hold.re (Hold.call K1 hp.2.2) [1, 0] (by rfl) (by rfl) : Hold _ _ _ ([rB gh 46 [.int .i64 0, .int .i64 0, .int .i64 0]] ++ [_])).drop⟩) ha) ?_))
  rintro r wn8a ⟨hl8, rfl, Hn⟩
  have H1 : Hold w F wn8a [rB gs 102 ([slv v 8 xs.length 1]), rB gh 46 ([.int .i64 0, .int .i64 0, .int .i64 0])] := Hold.call K1 Hn
  clear H0
  clear K1 hF1 n1 s1
  clear Hn
  refine r (mv rfl) ?_
  obtain ⟨F2, hF2, n2, s2, K2⟩ := Hold.front (Γ := [rB gs 102 ([slv v 8 xs.length 1])]) (Δ := [rB gh 46 ([.int .i64 0, .int .i64 0, .int .i64 0])]) H1
  obtain ⟨F3, us3, R3⟩ := Kd.R.sl (hx.tt (Hold.ch H1) hd) (8) (xs.length) (by first | omega | (simp; omega)) (by first | omega | (simp; omega))
  have e3 : (xs.take xs.length).drop 8 = xs.drop 8 := by first | (rw [List.take_length, List.drop_drop]; done) | (rw [List.drop_take]; done) | (simp; done) | (rw [List.take_length, List.drop_drop]; congr 1; omega)
  rw [e3] at R3
  refine clp go44 (num (n := 2) hF2 n2 R3 (fun k hk => (dis_of hx.lt hd s2) k (us3 k hk)) (by first | assumption | (simp; omega)) (by omega) (by first | exact ok | exact ok8_drop ok _)) (ac rfl (ac rfl an)) (fun c w2 a hp ha => FinP.panic (show _ ∧ _ ∧ _ from ⟨by have h9 := hp.1; (try simp only [List.length_drop] at *); omega, hp.2.1, (Hold.re (Hold.call K2 hp.2.2) [1, 0] (by rfl) (by rfl) : Hold _ _ _ ([rB gh 46 [.int .i64 0, .int .i64 0, .int .i64 0]] ++ [_])).drop⟩) ha) ?_
  rintro r wn2b ⟨hlb, rfl, Hn⟩
  have H2 : Hold w F wn2b [rB gs 102 ([slv (slv v 8 xs.length 1) 2 ((xs.drop 8).length) 1]), rB gh 46 ([.int .i64 0, .int .i64 0, .int .i64 0])] := Hold.call K2 Hn
  clear H1
  clear K2 hF2 n2 s2
  clear Hn
  refine r (mv rfl) ?_
  obtain ⟨F4, hF4, n4, s4, K4⟩ := Hold.front (Γ := [rB gs 102 ([slv (slv v 8 xs.length 1) 2 ((xs.drop 8).length) 1])]) (Δ := [rB gh 46 ([.int .i64 0, .int .i64 0, .int .i64 0])]) H2
  obtain ⟨F5, us5, R5⟩ := Kd.R.sl (hx.tt (Hold.ch H2) hd) (8) (xs.length) (by first | omega | (simp; omega)) (by first | omega | (simp; omega))
  have e5 : (xs.take xs.length).drop 8 = xs.drop 8 := by first | (rw [List.take_length, List.drop_drop]; done) | (rw [List.drop_take]; done) | (simp; done) | (rw [List.take_length, List.drop_drop]; congr 1; omega)
  rw [e5] at R5
  obtain ⟨F6, us6, R6⟩ := Kd.R.sl R5 (2) ((xs.drop 8).length) (by first | omega | (simp; omega)) (by first | omega | (simp; omega))
  have e6 : ((xs.drop 8).take ((xs.drop 8).length)).drop 2 = xs.drop 10 := by first | (rw [List.take_length, List.drop_drop]; done) | (rw [List.drop_take]; done) | (simp; done) | (rw [List.take_length, List.drop_drop]; congr 1; omega)
  rw [e6] at R6
  refine clp go44 (num (n := 2) hF4 n4 R6 (fun k hk => (fun k hk => (dis_of hx.lt hd s4) k (us5 k hk)) k (us6 k hk)) (by first | assumption | (simp; omega)) (by omega) (by first | exact ok | exact ok8_drop ok _)) (ac rfl (ac rfl an)) (fun c w2 a hp ha => FinP.panic (show _ ∧ _ ∧ _ from ⟨by have h9 := hp.1; (try simp only [List.length_drop] at *); omega, hp.2.1, (Hold.re (Hold.call K4 hp.2.2) [1, 0] (by rfl) (by rfl) : Hold _ _ _ ([rB gh 46 [.int .i64 0, .int .i64 0, .int .i64 0]] ++ [_])).drop⟩) ha) ?_
  rintro r wn2c ⟨hlc, rfl, Hn⟩
  have H3 : Hold w F wn2c [rB gs 102 ([slv (slv (slv v 8 xs.length 1) 2 ((xs.drop 8).length) 1) 2 ((xs.drop 10).length) 1]), rB gh 46 ([.int .i64 0, .int .i64 0, .int .i64 0])] := Hold.call K4 Hn
  clear H2
  clear K4 hF4 n4 s4
  clear Hn
  have b7 : B wn2c gh 46 ([.int .i64 0, .int .i64 0, .int .i64 0]) := Hold.blk H3 1 rfl
  refine r (bd (r := [.int .i64 (hq xs), .int .i64 (hs_ xs), .int .i64 (hb_ xs)]) ti46 pl46 (pc rfl (cel1 rfl) (pc rfl (cel1 rfl) (pc rfl (cel1 rfl) pn))) rfl) (ef0 (xst (vs := [.int .i64 (hq xs), .int .i64 (hs_ xs), .int .i64 (hb_ xs)]) ti46 rfl rfl rfl b7 rfl (Nat.le_of_ble_eq_true rfl) (one_all rfl)) ?_)
  rintro w8 ⟨-, b8, c8⟩
  have H4 : Hold w F w8 [rB gs 102 ([slv (slv (slv v 8 xs.length 1) 2 ((xs.drop 8).length) 1) 2 ((xs.drop 10).length) 1]), rB gh 46 ([.int .i64 (hq xs), .int .i64 (hs_ xs), .int .i64 (hb_ xs)])] := Hold.setB H3 1 rfl b8 c8 rfl
  clear H3
  clear b8 c8
  refine re ?_
  simp only [List.length_drop] at hlb hlc
  have H5 : Hold w F w8 [rB gh 46 ([.int .i64 (hq xs), .int .i64 (hs_ xs), .int .i64 (hb_ xs)])] := (show Hold w F w8 ([rB gh 46 ([.int .i64 (hq xs), .int .i64 (hs_ xs), .int .i64 (hb_ xs)])] ++ [rB gs 102 ([slv (slv (slv v 8 xs.length 1) 2 ((xs.drop 8).length) 1) 2 ((xs.drop 10).length) 1])]) from Hold.re H4 [1, 0] (by kernel_rfl) (by rfl)).drop
  clear H4
  refine finp ?_
  exact fin0 Tryd.results63 ⟨by omega, H5⟩
abbrev decH (xs : List Int) : Prop := xs.length = 64 ∧ hdr (hq xs) (hs_ xs) (hb_ xs) ∧ encH (hq xs) (hs_ xs) (hb_ xs) = xs
def dV (xs : List Int) (v : Int) : Int := if decH xs then v else 0
theorem dV_no {xs : List Int} {v : Int} (h : ¬ decH xs) : dV xs v = 0 := if_neg h
theorem dV_yes {xs : List Int} {v : Int} (h : decH xs) : dV xs v = v := if_pos h
theorem unbig_cons (x : Int) (xs : List Int) : unbig (x :: xs) = x * 256 ^ xs.length + unbig xs := by
  have : ∀ (xs : List Int) (v : Int), xs.foldl (fun v b => v * 256 + b) v = v * 256 ^ xs.length + unbig xs := by
    intro xs
    induction xs with
    | nil => intro v; simp [unbig]
    | cons y ys ih =>
      intro v
      simp only [List.foldl_cons, unbig, List.length_cons]
      rw [ih, ih (0 * 256 + y), Int.pow_succ, Int.zero_mul, Int.zero_add, Int.add_mul, Int.mul_assoc, Int.mul_comm 256 (256 ^ ys.length), Int.add_assoc]
  have h := this xs x
  rw [← h]
  show List.foldl (fun v b => v * 256 + b) (0 * 256 + x) xs = _
  rw [Int.zero_mul, Int.zero_add]
/-- A number of eight bytes: by its first byte. -/
theorem eight {xs : List Int} (ok : ok8 xs) (hl : xs.length = 8) : (xs[0] ≤ 127 → unbig xs ≤ 9223372036854775807) ∧ (127 < xs[0] → IntKind.i64.wrap (unbig xs) < 0) := by
  cases xs with
  | nil => simp at hl
  | cons x xs =>
    have h1 := ok x (by simp)
    have hl' : xs.length = 7 := by simpa using hl
    have h2 := unbig_nn (xs := xs) (fun y hy => ok y (by simp [hy]))
    have h3 := unbig_lt (xs := xs) (fun y hy => ok y (by simp [hy]))
    rw [hl'] at h3
    have e : (256 : Int) ^ 7 = 72057594037927936 := by rfl
    rw [unbig_cons, hl', e]
    rw [e] at h3
    simp only [List.getElem_cons_zero]
    refine ⟨fun h => by omega, fun h => ?_⟩
    obtain ⟨q, hq, _, _⟩ := i64_w (x := x * 72057594037927936 + unbig xs)
    omega
theorem take_get {xs : List Int} (h : 8 ≤ xs.length) : (xs.take 8)[0]'(by simp; omega) = xs[0]'(by omega) := by simp
theorem hs_id {xs : List Int} (ok : ok8 xs) (h : 12 ≤ xs.length) : hs_ xs = unbig ((xs.drop 8).take 2) ∧ hb_ xs = unbig ((xs.drop 10).take 2) := by
  have h1 := unbig_2 (ok8_take (ok8_drop ok 8) 2) (by simp; omega)
  have h2 := unbig_nn (ok8_take (ok8_drop ok 8) 2)
  have h3 := unbig_2 (ok8_take (ok8_drop ok 10) 2) (by simp; omega)
  have h4 := unbig_nn (ok8_take (ok8_drop ok 10) 2)
  exact ⟨i64_id (by omega), i64_id (by omega)⟩
theorem impl_DecodeHeader {w : World} {F : List Nat} {v : Value} {xs : List Int} (hx : u8.R w F v xs) (lx : xs.length ≤ 1000000000) (ok : ok8 xs) :
    Ret Tryd.prog 25 #[v] w (fun r w' => r = .agg #[.bool (decide (decH xs)), .int .i64 (dV xs (hq xs)), .int .i64 (dV xs (hs_ xs)), .int .i64 (dV xs (hb_ xs))] ∧ Ch [] w w') := by
  refine enter Tryd.func25 rfl Tryd.ntmps25 (by rfl) (by rfl) ?_
  have H0 : Hold w [] w [] := Hold.start w
  refine sq (rg (ef (xal ti50) ?_))
  rintro _ w1 ⟨g2, e1, rfl, -, b1, c1⟩
  have H1 : Hold w [] w1 [rB g2 50 ([.bool false, .int .i64 0, .int .i64 0, .int .i64 0])] := Hold.newB H0 e1 b1 c1
  clear H0
  clear e1 b1 c1
  refine re (sq (rg (ef (xal ti46) ?_)))
  rintro _ w2 ⟨g3, e2, rfl, -, b2, c2⟩
  have H2 : Hold w [] w2 [rB g2 50 ([.bool false, .int .i64 0, .int .i64 0, .int .i64 0]), rB g3 46 ([.int .i64 0, .int .i64 0, .int .i64 0])] := Hold.newB H1 e2 b2 c2
  clear H1
  clear e2 b2 c2
  have H3 : Hold w [] w2 [rB g3 46 ([.int .i64 0, .int .i64 0, .int .i64 0]), rB g2 50 ([.bool false, .int .i64 0, .int .i64 0, .int .i64 0])] := Hold.re H2 [1, 0] (by kernel_rfl) (by rfl)
  clear H2
  obtain ⟨F3, hF3, n3, s3, K3⟩ := Hold.front (Γ := [rB g3 46 ([.int .i64 0, .int .i64 0, .int .i64 0])]) (Δ := [rB g2 50 ([.bool false, .int .i64 0, .int .i64 0, .int .i64 0])]) H3
  have S3 : ∀ k, k ∈ F3 → k ∈ ([] : List Nat) ∨ w.heap.size ≤ k := s3
  refine re (sq (rg (r (mv rfl) (r (mf (vs := []) (cs := [.pointer (some ⟨g3, 0, none⟩)]) an (ac rfl an)) (cl go40 ((reading (cap := [.pointer (some ⟨g3, 0, none⟩)]) (A := rB g3 46 [.int .i64 0, .int .i64 0, .int .i64 0]) (Aok := rB g3 46 [.int .i64 (hq xs), .int .i64 (hs_ xs), .int .i64 (hb_ xs)]) (Abad := rB g3 46 [.int .i64 0, .int .i64 0, .int .i64 0]) (okp := 12 ≤ xs.length) (badp := xs.length < 12) (hx.t (Hold.ch H3)) (dis_of0 hx.lt S3) go63 hF3 n3 (fun w1 gs F1 c1 h1 n1 s1 => DecodeHeader_1 h1 n1 ((hx.t (Hold.ch H3)).tt c1 (dis_of0 hx.lt S3)) (dis_of (Kd.R.lt (hx.t (Hold.ch H3))) (dis_of0 hx.lt S3) s1) lx ok))) (ac rfl (ac rfl an)) ?_)))))
  rintro r wr (⟨rfl, hok, Hr⟩ | ⟨rfl, hok, Hr⟩)
  · have H4 : Hold w [] wr [rB g3 46 ([.int .i64 (hq xs), .int .i64 (hs_ xs), .int .i64 (hb_ xs)]), rB g2 50 ([.bool false, .int .i64 0, .int .i64 0, .int .i64 0])] := Hold.call K3 Hr
    clear H3
    refine r (sa rfl) (re (sq (sq ?_)))
    refine rde mixed ?_
    intro w4 c4
    have H5 : Hold w [] w4 [rB g3 46 ([.int .i64 (hq xs), .int .i64 (hs_ xs), .int .i64 (hb_ xs)]), rB g2 50 ([.bool false, .int .i64 0, .int .i64 0, .int .i64 0])] := Hold.t H4 c4
    clear H4
    clear c4
    have H5d0 : Hold w4 [] w4 [] := Hold.start w4
    refine ⟨fun w' => Ch [] w4 w', Ch.refl _ _, ?_⟩
    refine edt 0 rfl (by kernel_rfl) (fun w' hS => mv rfl) (edt 1 rfl (by kernel_rfl) (fun w' hS => nt rfl) (edt 2 rfl (by kernel_rfl) (fun w' hS => mv rfl) (edty 3 rfl (by kernel_rfl) rfl rfl rfl (fun w' hS => mv rfl) (edty 4 rfl (by kernel_rfl) rfl rfl rfl (fun w' hS => ln Tryd.underlying22 rfl (((hx.t (Hold.ch H5)).t hS))) (edty 5 rfl (by kernel_rfl) rfl rfl rfl (fun w' hS => bi rfl rfl rfl) (edt 6 rfl (by kernel_rfl) (fun w' hS => pk rfl rfl) (edt 7 rfl (by kernel_rfl) (fun w' hS => mv rfl) ?_)))))))
    refine spne 15 rfl (fun h64 => ?_) (fun h64 => ?_)
    · refine edtn 8 rfl (by kernel_rfl) rfl rfl rfl (edtn 9 rfl (by kernel_rfl) rfl rfl rfl (edtn 10 rfl (by kernel_rfl) rfl rfl rfl (edt 11 rfl (by kernel_rfl) (fun w' hS => pk rfl rfl) (edt 12 rfl (by kernel_rfl) (fun w' hS => mv rfl) (edtn 13 rfl (by kernel_rfl) rfl rfl rfl (edtn 14 rfl (by kernel_rfl) rfl rfl rfl (edtn 15 rfl (by kernel_rfl) rfl rfl rfl (edtn 16 rfl (by kernel_rfl) rfl rfl rfl (edtn 17 rfl (by kernel_rfl) rfl rfl rfl (edtn 18 rfl (by kernel_rfl) rfl rfl rfl ?_))))))))))
      have H6 : Hold w [] w4 [rB g3 46 ([.int .i64 (hq xs), .int .i64 (hs_ xs), .int .i64 (hb_ xs)]), rB g2 50 ([.bool false, .int .i64 0, .int .i64 0, .int .i64 0])] := Hold.news H5 H5d0
      clear H5d0 H5
      refine ed1 19 (by kernel_rfl) <| eur rfl (pk rfl rfl) (.inl (by kernel_rfl)) ?_
      refine edd (by kernel_rfl) ?_
      refine ct rfl (sq ?_)
      refine gen (fun ρ => ρ 2 = .pointer (some ⟨g2, 0, none⟩) ∧ ρ 3 = .pointer (some ⟨g3, 0, none⟩) ∧ True) ⟨rfl, rfl, trivial⟩ ?_
      rintro ρ ⟨z2, z3, -⟩
      have b6 : B w4 g2 50 ([.bool false, .int .i64 0, .int .i64 0, .int .i64 0]) := Hold.blk H6 1 rfl
      refine rg (r (bd (r := [.bool false, .int .i64 0, .int .i64 0, .int .i64 0]) ti50 pl50 pn rfl) (ef0 (xst (vs := [.bool false, .int .i64 0, .int .i64 0, .int .i64 0]) ti50 z2 rfl rfl b6 rfl (Nat.le_of_ble_eq_true rfl) (one_all rfl)) ?_))
      rintro w7 ⟨-, b7, c7⟩
      have H7 : Hold w [] w7 [rB g3 46 ([.int .i64 (hq xs), .int .i64 (hs_ xs), .int .i64 (hb_ xs)]), rB g2 50 ([.bool false, .int .i64 0, .int .i64 0, .int .i64 0])] := Hold.setB H6 1 rfl b7 c7 rfl
      clear H6
      clear b7 c7
      refine re (rt ?_)
      have hD : ¬ decH xs := fun e => h64 (by have := e.1; omega)
      rw [decide_eq_false hD, dV_no hD, dV_no hD, dV_no hD]
      have b8 : B w7 g2 50 ([.bool false, .int .i64 0, .int .i64 0, .int .i64 0]) := Hold.blk H7 1 rfl
      exact finc  (cs := [.bool false, .int .i64 0, .int .i64 0, .int .i64 0]) Tryd.results25 Tryd.underlying50 rfl ti50 z2 b8 rfl  ⟨rfl, Hold.ch H7⟩
    · have h64' : xs.length = 64 := by omega
      have b6 : B w4 g3 46 ([.int .i64 (hq xs), .int .i64 (hs_ xs), .int .i64 (hb_ xs)]) := Hold.blk H5 0 rfl
      refine edty 8 rfl (by kernel_rfl) rfl rfl rfl (fun w' hS => lab [.int .i64 (hq xs), .int .i64 (hs_ xs), .int .i64 (hb_ xs)] Tryd.underlying46 rfl ti46 rfl (hS.b0 b6) rfl rfl) (ed1 9 (by kernel_rfl) <| eucg rfl rfl rfl rfl go61 (ac rfl an) (Header_valid) ?_)
      rintro r wv ⟨rfl, cv⟩
      have H6d : Hold w4 [] wv [] := Hold.t H5d0 cv
      clear H5d0
      clear cv
      refine ⟨.inr (Hold.ch H6d), ?_⟩
      refine edty 10 rfl (by kernel_rfl) rfl rfl rfl (fun w' hS => nt rfl) (edt 11 rfl (by kernel_rfl) (fun w' hS => pk rfl rfl) (edt 12 rfl (by kernel_rfl) (fun w' hS => mv rfl) ?_))
      refine spne 20 rfl (fun hh => ?_) (fun hh => ?_)
      · refine edtn 13 rfl (by kernel_rfl) rfl rfl rfl (edtn 14 rfl (by kernel_rfl) rfl rfl rfl (edtn 15 rfl (by kernel_rfl) rfl rfl rfl (edtn 16 rfl (by kernel_rfl) rfl rfl rfl (edtn 17 rfl (by kernel_rfl) rfl rfl rfl (edtn 18 rfl (by kernel_rfl) rfl rfl rfl ?_)))))
        have H7 : Hold w [] wv [rB g3 46 ([.int .i64 (hq xs), .int .i64 (hs_ xs), .int .i64 (hb_ xs)]), rB g2 50 ([.bool false, .int .i64 0, .int .i64 0, .int .i64 0])] := Hold.news H5 H6d
        clear H6d H5
        refine ed1 19 (by kernel_rfl) <| eur rfl (pk rfl rfl) (.inl (by kernel_rfl)) ?_
        refine edd (by kernel_rfl) ?_
        refine ct rfl (sq ?_)
        refine gen (fun ρ => ρ 2 = .pointer (some ⟨g2, 0, none⟩) ∧ ρ 3 = .pointer (some ⟨g3, 0, none⟩) ∧ True) ⟨rfl, rfl, trivial⟩ ?_
        rintro ρ ⟨z2, z3, -⟩
        have b8 : B wv g2 50 ([.bool false, .int .i64 0, .int .i64 0, .int .i64 0]) := Hold.blk H7 1 rfl
        refine rg (r (bd (r := [.bool false, .int .i64 0, .int .i64 0, .int .i64 0]) ti50 pl50 pn rfl) (ef0 (xst (vs := [.bool false, .int .i64 0, .int .i64 0, .int .i64 0]) ti50 z2 rfl rfl b8 rfl (Nat.le_of_ble_eq_true rfl) (one_all rfl)) ?_))
        rintro w9 ⟨-, b9, c9⟩
        have H8 : Hold w [] w9 [rB g3 46 ([.int .i64 (hq xs), .int .i64 (hs_ xs), .int .i64 (hb_ xs)]), rB g2 50 ([.bool false, .int .i64 0, .int .i64 0, .int .i64 0])] := Hold.setB H7 1 rfl b9 c9 rfl
        clear H7
        clear b9 c9
        refine re (rt ?_)
        have hD : ¬ decH xs := fun e => hh e.2.1
        rw [decide_eq_false hD, dV_no hD, dV_no hD, dV_no hD]
        have b10 : B w9 g2 50 ([.bool false, .int .i64 0, .int .i64 0, .int .i64 0]) := Hold.blk H8 1 rfl
        exact finc  (cs := [.bool false, .int .i64 0, .int .i64 0, .int .i64 0]) Tryd.results25 Tryd.underlying50 rfl ti50 z2 b10 rfl  ⟨rfl, Hold.ch H8⟩
      · obtain ⟨ad8, c8, e8⟩ := Kd.R.adr ((hx.t (Hold.ch H5)).t (Hold.ch H6d)) (by omega)
        refine edty 13 rfl (by kernel_rfl) rfl rfl rfl (fun w' hS => lab [.int .i64 (hq xs), .int .i64 (hs_ xs), .int .i64 (hb_ xs)] Tryd.underlying46 rfl ti46 rfl (hS.b0 b6) rfl rfl) (edty 15 rfl (by kernel_rfl) rfl rfl rfl (fun w' hS => mv rfl) (edty 16 rfl (by kernel_rfl) rfl rfl rfl (fun w' hS => s2a Tryd.underlying85 (e8) (by omega)) (edty 17 rfl (by kernel_rfl) rfl rfl rfl (fun w' hS => lar Tryd.underlying85 ti85 e8 ((hx.t (Hold.ch H5)).t hS) (by omega) rfl) (ed1 14 (by kernel_rfl) <| eucg rfl rfl rfl rfl go62 (ac rfl an) (Header_block hh) ?_))))
        rintro r wb ⟨rfl, cb⟩
        have H7d : Hold w4 [] wb [] := Hold.t H6d cb
        clear H6d
        clear cb
        refine ⟨.inr (Hold.ch H7d), ?_⟩
        refine edty 18 rfl (by kernel_rfl) rfl rfl rfl (fun w' hS => ane Tryd.underlying85 Tryd.underlying5 ti5 (by kernel_rfl) rfl rfl (encH_len _ _ _) (by simp; omega)) ?_
        have H8 : Hold w [] wb [rB g3 46 ([.int .i64 (hq xs), .int .i64 (hs_ xs), .int .i64 (hb_ xs)]), rB g2 50 ([.bool false, .int .i64 0, .int .i64 0, .int .i64 0])] := Hold.news H5 H7d
        clear H7d H5
        refine ed1 19 (by kernel_rfl) <| eur rfl (pk rfl rfl) (.inl (by kernel_rfl)) ?_
        refine edd (by kernel_rfl) ?_
        refine cpn rfl (fun he => ?_) (fun he => ?_)
        · refine sq ?_
          refine gen (fun ρ => ρ 2 = .pointer (some ⟨g2, 0, none⟩) ∧ ρ 3 = .pointer (some ⟨g3, 0, none⟩) ∧ True) ⟨rfl, rfl, trivial⟩ ?_
          rintro ρ ⟨z2, z3, -⟩
          have b10 : B wb g2 50 ([.bool false, .int .i64 0, .int .i64 0, .int .i64 0]) := Hold.blk H8 1 rfl
          refine rg (r (bd (r := [.bool false, .int .i64 0, .int .i64 0, .int .i64 0]) ti50 pl50 pn rfl) (ef0 (xst (vs := [.bool false, .int .i64 0, .int .i64 0, .int .i64 0]) ti50 z2 rfl rfl b10 rfl (Nat.le_of_ble_eq_true rfl) (one_all rfl)) ?_))
          rintro w11 ⟨-, b11, c11⟩
          have H9 : Hold w [] w11 [rB g3 46 ([.int .i64 (hq xs), .int .i64 (hs_ xs), .int .i64 (hb_ xs)]), rB g2 50 ([.bool false, .int .i64 0, .int .i64 0, .int .i64 0])] := Hold.setB H8 1 rfl b11 c11 rfl
          clear H8
          clear b11 c11
          refine re (rt ?_)
          have hD : ¬ decH xs := fun e => he (by rw [List.take_of_length_le (by omega)]; exact e.2.2)
          rw [decide_eq_false hD, dV_no hD, dV_no hD, dV_no hD]
          have b12 : B w11 g2 50 ([.bool false, .int .i64 0, .int .i64 0, .int .i64 0]) := Hold.blk H9 1 rfl
          exact finc  (cs := [.bool false, .int .i64 0, .int .i64 0, .int .i64 0]) Tryd.results25 Tryd.underlying50 rfl ti50 z2 b12 rfl  ⟨rfl, Hold.ch H9⟩
        · have hD : decH xs := ⟨h64', hh, by rw [List.take_of_length_le (by omega)] at he; exact he⟩
          rw [decide_eq_true hD, dV_yes hD, dV_yes hD, dV_yes hD]
          refine sk (sq ?_)
          refine gen (fun ρ => ρ 2 = .pointer (some ⟨g2, 0, none⟩) ∧ ρ 3 = .pointer (some ⟨g3, 0, none⟩) ∧ True) ⟨rfl, rfl, trivial⟩ ?_
          rintro ρ ⟨z2, z3, -⟩
          have b10 : B wb g3 46 ([.int .i64 (hq xs), .int .i64 (hs_ xs), .int .i64 (hb_ xs)]) := Hold.blk H8 0 rfl
          have b11 : B wb g2 50 ([.bool false, .int .i64 0, .int .i64 0, .int .i64 0]) := Hold.blk H8 1 rfl
          refine rg (r (lab [.int .i64 (hq xs), .int .i64 (hs_ xs), .int .i64 (hb_ xs)] Tryd.underlying46 rfl ti46 z3 b10 rfl rfl) (r (bd (r := [.bool true, .int .i64 (hq xs), .int .i64 (hs_ xs), .int .i64 (hb_ xs)]) ti50 pl50 (pc rfl (cel1 rfl) (pc rfl rfl pn)) rfl) (ef0 (xst (vs := [.bool true, .int .i64 (hq xs), .int .i64 (hs_ xs), .int .i64 (hb_ xs)]) ti50 z2 rfl rfl b11 rfl (Nat.le_of_ble_eq_true rfl) (one_all rfl)) ?_)))
          rintro w12 ⟨-, b12, c12⟩
          have H9 : Hold w [] w12 [rB g3 46 ([.int .i64 (hq xs), .int .i64 (hs_ xs), .int .i64 (hb_ xs)]), rB g2 50 ([.bool true, .int .i64 (hq xs), .int .i64 (hs_ xs), .int .i64 (hb_ xs)])] := Hold.setB H8 1 rfl b12 c12 rfl
          clear H8
          clear b12 c12
          refine re (rt ?_)
          have b13 : B w12 g2 50 ([.bool true, .int .i64 (hq xs), .int .i64 (hs_ xs), .int .i64 (hb_ xs)]) := Hold.blk H9 1 rfl
          exact finc  (cs := [.bool true, .int .i64 (hq xs), .int .i64 (hs_ xs), .int .i64 (hb_ xs)]) Tryd.results25 Tryd.underlying50 rfl ti50 z2 b13 rfl  ⟨rfl, Hold.ch H9⟩
  · have H4 : Hold w [] wr [rB g3 46 ([.int .i64 0, .int .i64 0, .int .i64 0]), rB g2 50 ([.bool false, .int .i64 0, .int .i64 0, .int .i64 0])] := Hold.call K3 Hr
    clear H3
    refine r (sa rfl) (re (sq (sq ?_)))
    refine rde mixed ?_
    intro w4 c4
    have H5 : Hold w [] w4 [rB g3 46 ([.int .i64 0, .int .i64 0, .int .i64 0]), rB g2 50 ([.bool false, .int .i64 0, .int .i64 0, .int .i64 0])] := Hold.t H4 c4
    clear H4
    clear c4
    have H5d0 : Hold w4 [] w4 [] := Hold.start w4
    refine ⟨fun w' => Ch [] w4 w', Ch.refl _ _, ?_⟩
    refine edt 0 rfl (by kernel_rfl) (fun w' hS => mv rfl) (edt 1 rfl (by kernel_rfl) (fun w' hS => nt rfl) (edt 2 rfl (by kernel_rfl) (fun w' hS => mv rfl) (edtn 3 rfl (by kernel_rfl) rfl rfl rfl (edtn 4 rfl (by kernel_rfl) rfl rfl rfl (edtn 5 rfl (by kernel_rfl) rfl rfl rfl (edt 6 rfl (by kernel_rfl) (fun w' hS => pk rfl rfl) (edt 7 rfl (by kernel_rfl) (fun w' hS => mv rfl) (edtn 8 rfl (by kernel_rfl) rfl rfl rfl (edtn 9 rfl (by kernel_rfl) rfl rfl rfl (edtn 10 rfl (by kernel_rfl) rfl rfl rfl (edt 11 rfl (by kernel_rfl) (fun w' hS => pk rfl rfl) (edt 12 rfl (by kernel_rfl) (fun w' hS => mv rfl) (edtn 13 rfl (by kernel_rfl) rfl rfl rfl (edtn 14 rfl (by kernel_rfl) rfl rfl rfl (edtn 15 rfl (by kernel_rfl) rfl rfl rfl (edtn 16 rfl (by kernel_rfl) rfl rfl rfl (edtn 17 rfl (by kernel_rfl) rfl rfl rfl (edtn 18 rfl (by kernel_rfl) rfl rfl rfl ?_))))))))))))))))))
    have H6 : Hold w [] w4 [rB g3 46 ([.int .i64 0, .int .i64 0, .int .i64 0]), rB g2 50 ([.bool false, .int .i64 0, .int .i64 0, .int .i64 0])] := Hold.news H5 H5d0
    clear H5d0 H5
    refine ed1 19 (by kernel_rfl) <| eur rfl (pk rfl rfl) (.inl (by kernel_rfl)) ?_
    refine edd (by kernel_rfl) ?_
    refine ct rfl (sq ?_)
    refine gen (fun ρ => ρ 2 = .pointer (some ⟨g2, 0, none⟩) ∧ ρ 3 = .pointer (some ⟨g3, 0, none⟩) ∧ True) ⟨rfl, rfl, trivial⟩ ?_
    rintro ρ ⟨z2, z3, -⟩
    have b6 : B w4 g2 50 ([.bool false, .int .i64 0, .int .i64 0, .int .i64 0]) := Hold.blk H6 1 rfl
    refine rg (r (bd (r := [.bool false, .int .i64 0, .int .i64 0, .int .i64 0]) ti50 pl50 pn rfl) (ef0 (xst (vs := [.bool false, .int .i64 0, .int .i64 0, .int .i64 0]) ti50 z2 rfl rfl b6 rfl (Nat.le_of_ble_eq_true rfl) (one_all rfl)) ?_))
    rintro w7 ⟨-, b7, c7⟩
    have H7 : Hold w [] w7 [rB g3 46 ([.int .i64 0, .int .i64 0, .int .i64 0]), rB g2 50 ([.bool false, .int .i64 0, .int .i64 0, .int .i64 0])] := Hold.setB H6 1 rfl b7 c7 rfl
    clear H6
    clear b7 c7
    refine re (rt ?_)
    have hD : ¬ decH xs := fun e => by have := e.1; omega
    rw [decide_eq_false hD, dV_no hD, dV_no hD, dV_no hD]
    have b8 : B w7 g2 50 ([.bool false, .int .i64 0, .int .i64 0, .int .i64 0]) := Hold.blk H7 1 rfl
    exact finc  (cs := [.bool false, .int .i64 0, .int .i64 0, .int .i64 0]) Tryd.results25 Tryd.underlying50 rfl ti50 z2 b8 rfl  ⟨rfl, Hold.ch H7⟩
theorem ok8_app {xs ys : List Int} (h : ok8 xs) (h' : ok8 ys) : ok8 (xs ++ ys) := fun x hx => (List.mem_append.1 hx).elim (h x) (h' x)
theorem ok8_rep (n : Nat) : ok8 (List.replicate n 0) := fun x hx => by rw [List.eq_of_mem_replicate hx]; omega
theorem ok8_big (v : Int) (n : Nat) : ok8 (big v n) := by
  induction n generalizing v with
  | zero => intro x hx; cases hx
  | succ n ih =>
    refine ok8_app (ih _) (fun x hx => ?_)
    rw [List.mem_singleton.1 hx]; omega
theorem ok8_encHeader (q s b : Int) : ok8 (encHeader q s b) := by
  unfold encHeader; split
  · exact ok8_app (ok8_app (ok8_app (ok8_app (ok8_big _ _) (ok8_big _ _)) (ok8_big _ _)) (ok8_rep _)) (ok8_big _ _)
  · intro x hx; cases hx
theorem decH_iff {xs : List Int} (ok : ok8 xs) (hl : xs.length = 64) : mkS (encHeader (hq xs) (hs_ xs) (hb_ xs)) = mkS xs ↔ decH xs := by
  constructor
  · intro h
    have h1 := mkS_inj (ok8_encHeader _ _ _) ok h
    have hh : hdr (hq xs) (hs_ xs) (hb_ xs) := by
      by_cases hh : hdr (hq xs) (hs_ xs) (hb_ xs)
      · exact hh
      · rw [encHeader, if_neg hh] at h1
        rw [← h1] at hl; simp at hl
    rw [encHeader, if_pos hh] at h1
    exact ⟨hl, hh, h1⟩
  · rintro ⟨_, hh, h1⟩
    rw [encHeader, if_pos hh, h1]
end Go.Proofs.YtgpcanjmgdmdhaaDoor
