/-
  CONTRACTS 25: DecodeHeader. No condition.
-/
import Derived.Test.Ytgpcanjmgdmdhaa24
namespace Go.Proofs.Ytgpcanjmgdmdhaa
open Go Go.Eng
set_option maxRecDepth 100000
set_option maxHeartbeats 4000000
set_option linter.unusedVariables false
set_option linter.unusedSimpArgs false
/-- The three numbers that a header's bytes begin with. -/
def hq (xs : List Int) : Int := IntKind.i64.wrap (unbig (xs.take 8))
def hs_ (xs : List Int) : Int := IntKind.i64.wrap (unbig ((xs.drop 8).take 2))
def hb_ (xs : List Int) : Int := IntKind.i64.wrap (unbig ((xs.drop 10).take 2))
theorem DecodeHeader_1 {w : World} {G F : List Nat} {gs gh : Nat} {v : Value} {xs : List Int} (hs : Hs w [rB gs 153 [v], rB gh 42 [.int .i64 0, .int .i64 0, .int .i64 0]] F) (nd : F.Nodup) (hx : u8.R w G v xs) (hd : ∀ k, k ∈ G → k ∉ F) (lx : xs.length ≤ 1000000000) (ok : ok8 xs) :
    RetP Try.prog 120 #[.pointer (some ⟨gs, 0, none⟩), .pointer (some ⟨gh, 0, none⟩)] w (fun r w' => 12 ≤ xs.length ∧ Hold w F w' [rB gh 42 [.int .i64 (hq xs), .int .i64 (hs_ xs), .int .i64 (hb_ xs)]]) (fun c w' => xs.length < 12 ∧ c = [ranOut] ∧ Hold w F w' [rB gh 42 [.int .i64 0, .int .i64 0, .int .i64 0]]) := by
  refine enterP Try.func120 rfl Try.ntmps120 (by rfl) (by rfl) ?_
  have H0 : Hold w F w [rB gs 153 ([v]), rB gh 42 ([.int .i64 0, .int .i64 0, .int .i64 0])] := Hold.begin hs nd
  obtain ⟨F1, hF1, n1, s1, K1⟩ := Hold.front (Γ := [rB gs 153 ([v])]) (Δ := [rB gh 42 ([.int .i64 0, .int .i64 0, .int .i64 0])]) H0
  refine rg (r (mv rfl) (clp go121 (num (n := 8) hF1 n1 (hx.tt (Hold.ch H0) hd) (dis_of hx.lt hd s1) (by first | assumption | (simp; omega)) (by omega) (by first | exact ok | exact ok8_drop ok _)) (ac rfl (ac rfl an)) (fun c w2 a hp ha => FinP.panic (show _ ∧ _ ∧ _ from ⟨by have h9 := hp.1; (try simp only [List.length_drop] at *); omega, hp.2.1, (Hold.re (Hold.call K1 hp.2.2) [1, 0] (by rfl) (by rfl) : Hold _ _ _ ([rB gh 42 [.int .i64 0, .int .i64 0, .int .i64 0]] ++ [_])).drop⟩) ha) ?_))
  rintro r wn8a ⟨hl8, rfl, Hn⟩
  have H1 : Hold w F wn8a [rB gs 153 ([slv v 8 xs.length 1]), rB gh 42 ([.int .i64 0, .int .i64 0, .int .i64 0])] := Hold.call K1 Hn
  clear H0
  clear K1 hF1 n1 s1
  clear Hn
  refine r (mv rfl) ?_
  obtain ⟨F2, hF2, n2, s2, K2⟩ := Hold.front (Γ := [rB gs 153 ([slv v 8 xs.length 1])]) (Δ := [rB gh 42 ([.int .i64 0, .int .i64 0, .int .i64 0])]) H1
  obtain ⟨F3, u3, R3⟩ := Kd.R.sl (hx.tt (Hold.ch H1) hd) (8) (xs.length) (by first | omega | (simp; omega)) (by first | omega | (simp; omega))
  have e3 : (xs.take xs.length).drop 8 = xs.drop 8 := by first | (rw [List.take_length, List.drop_drop]; done) | (rw [List.drop_take]; done) | (simp; done) | (rw [List.take_length, List.drop_drop]; congr 1; omega)
  rw [e3] at R3
  refine clp go121 (num (n := 2) hF2 n2 R3 (fun k hk => (dis_of hx.lt hd s2) k (u3 k hk)) (by first | assumption | (simp; omega)) (by omega) (by first | exact ok | exact ok8_drop ok _)) (ac rfl (ac rfl an)) (fun c w2 a hp ha => FinP.panic (show _ ∧ _ ∧ _ from ⟨by have h9 := hp.1; (try simp only [List.length_drop] at *); omega, hp.2.1, (Hold.re (Hold.call K2 hp.2.2) [1, 0] (by rfl) (by rfl) : Hold _ _ _ ([rB gh 42 [.int .i64 0, .int .i64 0, .int .i64 0]] ++ [_])).drop⟩) ha) ?_
  rintro r wn2b ⟨hlb, rfl, Hn⟩
  have H2 : Hold w F wn2b [rB gs 153 ([slv (slv v 8 xs.length 1) 2 ((xs.drop 8).length) 1]), rB gh 42 ([.int .i64 0, .int .i64 0, .int .i64 0])] := Hold.call K2 Hn
  clear H1
  clear K2 hF2 n2 s2
  clear Hn
  refine r (mv rfl) ?_
  obtain ⟨F4, hF4, n4, s4, K4⟩ := Hold.front (Γ := [rB gs 153 ([slv (slv v 8 xs.length 1) 2 ((xs.drop 8).length) 1])]) (Δ := [rB gh 42 ([.int .i64 0, .int .i64 0, .int .i64 0])]) H2
  obtain ⟨F5, u5, R5⟩ := Kd.R.sl (hx.tt (Hold.ch H2) hd) (8) (xs.length) (by first | omega | (simp; omega)) (by first | omega | (simp; omega))
  have e5 : (xs.take xs.length).drop 8 = xs.drop 8 := by first | (rw [List.take_length, List.drop_drop]; done) | (rw [List.drop_take]; done) | (simp; done) | (rw [List.take_length, List.drop_drop]; congr 1; omega)
  rw [e5] at R5
  obtain ⟨F6, u6, R6⟩ := Kd.R.sl R5 (2) ((xs.drop 8).length) (by first | omega | (simp; omega)) (by first | omega | (simp; omega))
  have e6 : ((xs.drop 8).take ((xs.drop 8).length)).drop 2 = xs.drop 10 := by first | (rw [List.take_length, List.drop_drop]; done) | (rw [List.drop_take]; done) | (simp; done) | (rw [List.take_length, List.drop_drop]; congr 1; omega)
  rw [e6] at R6
  refine clp go121 (num (n := 2) hF4 n4 R6 (fun k hk => (fun k hk => (dis_of hx.lt hd s4) k (u5 k hk)) k (u6 k hk)) (by first | assumption | (simp; omega)) (by omega) (by first | exact ok | exact ok8_drop ok _)) (ac rfl (ac rfl an)) (fun c w2 a hp ha => FinP.panic (show _ ∧ _ ∧ _ from ⟨by have h9 := hp.1; (try simp only [List.length_drop] at *); omega, hp.2.1, (Hold.re (Hold.call K4 hp.2.2) [1, 0] (by rfl) (by rfl) : Hold _ _ _ ([rB gh 42 [.int .i64 0, .int .i64 0, .int .i64 0]] ++ [_])).drop⟩) ha) ?_
  rintro r wn2c ⟨hlc, rfl, Hn⟩
  have H3 : Hold w F wn2c [rB gs 153 ([slv (slv (slv v 8 xs.length 1) 2 ((xs.drop 8).length) 1) 2 ((xs.drop 10).length) 1]), rB gh 42 ([.int .i64 0, .int .i64 0, .int .i64 0])] := Hold.call K4 Hn
  clear H2
  clear K4 hF4 n4 s4
  clear Hn
  have b7 : B wn2c gh 42 ([.int .i64 0, .int .i64 0, .int .i64 0]) := Hold.blk H3 1 rfl
  refine r (bd (r := [.int .i64 (hq xs), .int .i64 (hs_ xs), .int .i64 (hb_ xs)]) ti42 pl42 (pc rfl (cel1 rfl) (pc rfl (cel1 rfl) (pc rfl (cel1 rfl) pn))) rfl) (ef0 (xst (vs := [.int .i64 (hq xs), .int .i64 (hs_ xs), .int .i64 (hb_ xs)]) ti42 rfl rfl rfl b7 rfl (Nat.le_of_ble_eq_true rfl) (one_all rfl)) ?_)
  rintro w8 ⟨-, b8, c8⟩
  have H4 : Hold w F w8 [rB gs 153 ([slv (slv (slv v 8 xs.length 1) 2 ((xs.drop 8).length) 1) 2 ((xs.drop 10).length) 1]), rB gh 42 ([.int .i64 (hq xs), .int .i64 (hs_ xs), .int .i64 (hb_ xs)])] := Hold.setB H3 1 rfl b8 c8 rfl
  clear H3
  clear b8 c8
  refine re ?_
  simp only [List.length_drop] at hlb hlc
  have H5 : Hold w F w8 [rB gh 42 ([.int .i64 (hq xs), .int .i64 (hs_ xs), .int .i64 (hb_ xs)])] := (show Hold w F w8 ([rB gh 42 ([.int .i64 (hq xs), .int .i64 (hs_ xs), .int .i64 (hb_ xs)])] ++ [rB gs 153 ([slv (slv (slv v 8 xs.length 1) 2 ((xs.drop 8).length) 1) 2 ((xs.drop 10).length) 1])]) from Hold.re H4 [1, 0] (by rfl) (by rfl)).drop
  clear H4
  refine finp ?_
  exact fin0 Try.results120 ⟨by omega, H5⟩
abbrev decH (xs : List Int) : Prop := xs.length = 64 ∧ hdr (hq xs) (hs_ xs) (hb_ xs) ∧ encH (hq xs) (hs_ xs) (hb_ xs) = xs
def dV (xs : List Int) (v : Int) : Int := if decH xs then v else 0
theorem dV_no {xs : List Int} {v : Int} (h : ¬ decH xs) : dV xs v = 0 := if_neg h
theorem dV_yes {xs : List Int} {v : Int} (h : decH xs) : dV xs v = v := if_pos h
theorem unbig_cons (x : Int) (xs : List Int) : unbig (x :: xs) = x * 256 ^ xs.length + unbig xs := by
  have : ∀ (xs : List Int) (v : Int), xs.foldl (fun v b => v * 256 + b) v = v * 256 ^ xs.length + unbig xs := by
    intro xs
    induction xs with
    | nil => intro v; simp [unbig]
    | cons y ys ih =>
      intro v
      simp only [List.foldl_cons, unbig, List.length_cons]
      rw [ih, ih (0 * 256 + y), Int.pow_succ, Int.zero_mul, Int.zero_add, Int.add_mul, Int.mul_assoc, Int.mul_comm 256 (256 ^ ys.length), Int.add_assoc]
  have h := this xs x
  rw [← h]
  show List.foldl (fun v b => v * 256 + b) (0 * 256 + x) xs = _
  rw [Int.zero_mul, Int.zero_add]
/-- A number of eight bytes: by its first byte. -/
theorem eight {xs : List Int} (ok : ok8 xs) (hl : xs.length = 8) : (xs[0] ≤ 127 → unbig xs ≤ 9223372036854775807) ∧ (127 < xs[0] → IntKind.i64.wrap (unbig xs) < 0) := by
  cases xs with
  | nil => simp at hl
  | cons x xs =>
    have h1 := ok x (by simp)
    have hl' : xs.length = 7 := by simpa using hl
    have h2 := unbig_nn (xs := xs) (fun y hy => ok y (by simp [hy]))
    have h3 := unbig_lt (xs := xs) (fun y hy => ok y (by simp [hy]))
    rw [hl'] at h3
    have e : (256 : Int) ^ 7 = 72057594037927936 := by rfl
    rw [unbig_cons, hl', e]
    rw [e] at h3
    simp only [List.getElem_cons_zero]
    refine ⟨fun h => by omega, fun h => ?_⟩
    obtain ⟨q, hq, _, _⟩ := i64_w (x := x * 72057594037927936 + unbig xs)
    omega
theorem take_get {xs : List Int} (h : 8 ≤ xs.length) : (xs.take 8)[0]'(by simp; omega) = xs[0]'(by omega) := by simp
theorem hs_id {xs : List Int} (ok : ok8 xs) (h : 12 ≤ xs.length) : hs_ xs = unbig ((xs.drop 8).take 2) ∧ hb_ xs = unbig ((xs.drop 10).take 2) := by
  have h1 := unbig_2 (ok8_take (ok8_drop ok 8) 2) (by simp; omega)
  have h2 := unbig_nn (ok8_take (ok8_drop ok 8) 2)
  have h3 := unbig_2 (ok8_take (ok8_drop ok 10) 2) (by simp; omega)
  have h4 := unbig_nn (ok8_take (ok8_drop ok 10) 2)
  exact ⟨i64_id (by omega), i64_id (by omega)⟩
theorem impl_DecodeHeader {w : World} {F : List Nat} {v : Value} {xs : List Int} (hx : u8.R w F v xs) (lx : xs.length ≤ 1000000000) (ok : ok8 xs) :
    Ret Try.prog 62 #[v] w (fun r w' => r = .agg #[.bool (decide (decH xs)), .int .i64 (dV xs (hq xs)), .int .i64 (dV xs (hs_ xs)), .int .i64 (dV xs (hb_ xs))] ∧ Ch [] w w') := by
  refine enter Try.func62 rfl Try.ntmps62 (by rfl) (by rfl) ?_
  have H0 : Hold w [] w [] := Hold.start w
  refine sq (rg (ef (xal ti80) ?_))
  rintro _ w1 ⟨g2, e1, rfl, -, b1, c1⟩
  have H1 : Hold w [] w1 [rB g2 80 ([.bool false, .int .i64 0, .int .i64 0, .int .i64 0])] := Hold.newB H0 e1 b1 c1
  clear H0
  clear e1 b1 c1
  refine re (sq (rg (ef (xal ti42) ?_)))
  rintro _ w2 ⟨g3, e2, rfl, -, b2, c2⟩
  have H2 : Hold w [] w2 [rB g2 80 ([.bool false, .int .i64 0, .int .i64 0, .int .i64 0]), rB g3 42 ([.int .i64 0, .int .i64 0, .int .i64 0])] := Hold.newB H1 e2 b2 c2
  clear H1
  clear e2 b2 c2
  have H3 : Hold w [] w2 [rB g3 42 ([.int .i64 0, .int .i64 0, .int .i64 0]), rB g2 80 ([.bool false, .int .i64 0, .int .i64 0, .int .i64 0])] := Hold.re H2 [1, 0] (by rfl) (by rfl)
  clear H2
  obtain ⟨F3, hF3, n3, s3, K3⟩ := Hold.front (Γ := [rB g3 42 ([.int .i64 0, .int .i64 0, .int .i64 0])]) (Δ := [rB g2 80 ([.bool false, .int .i64 0, .int .i64 0, .int .i64 0])]) H3
  have S3 : ∀ k, k ∈ F3 → k ∈ ([] : List Nat) ∨ w.heap.size ≤ k := s3
  refine re (sq (rg (r (mv rfl) (r (mf (vs := []) (cs := [.pointer (some ⟨g3, 0, none⟩)]) an (ac rfl an)) (cl go119 ((reading (cap := [.pointer (some ⟨g3, 0, none⟩)]) (A := rB g3 42 [.int .i64 0, .int .i64 0, .int .i64 0]) (Aok := rB g3 42 [.int .i64 (hq xs), .int .i64 (hs_ xs), .int .i64 (hb_ xs)]) (Abad := rB g3 42 [.int .i64 0, .int .i64 0, .int .i64 0]) (okp := 12 ≤ xs.length) (badp := xs.length < 12) (hx.t (Hold.ch H3)) (dis_of0 hx.lt S3) go120 hF3 n3 (fun w1 gs F1 c1 h1 n1 s1 => DecodeHeader_1 h1 n1 ((hx.t (Hold.ch H3)).tt c1 (dis_of0 hx.lt S3)) (dis_of (Kd.R.lt (hx.t (Hold.ch H3))) (dis_of0 hx.lt S3) s1) lx ok))) (ac rfl (ac rfl an)) ?_)))))
  rintro r wr (⟨rfl, hok, Hr⟩ | ⟨rfl, hok, Hr⟩)
  · have H4 : Hold w [] wr [rB g3 42 ([.int .i64 (hq xs), .int .i64 (hs_ xs), .int .i64 (hb_ xs)]), rB g2 80 ([.bool false, .int .i64 0, .int .i64 0, .int .i64 0])] := Hold.call K3 Hr
    clear H3
    refine r (sa rfl) (re (sq (sq ?_)))
    refine rde mixed ?_
    intro w4 c4
    have H5 : Hold w [] w4 [rB g3 42 ([.int .i64 (hq xs), .int .i64 (hs_ xs), .int .i64 (hb_ xs)]), rB g2 80 ([.bool false, .int .i64 0, .int .i64 0, .int .i64 0])] := Hold.t H4 c4
    clear H4
    clear c4
    have H5d0 : Hold w4 [] w4 [] := Hold.start w4
    refine ⟨fun w' => Ch [] w4 w', Ch.refl _ _, ?_⟩
    refine edt 0 rfl (by kernel_rfl) (fun w' hS => mv rfl) (edt 1 rfl (by kernel_rfl) (fun w' hS => nt rfl) (edt 2 rfl (by kernel_rfl) (fun w' hS => mv rfl) (edty 3 rfl (by kernel_rfl) rfl rfl rfl (fun w' hS => mv rfl) (edty 4 rfl (by kernel_rfl) rfl rfl rfl (fun w' hS => ln Try.underlying40 rfl (((hx.t (Hold.ch H5)).t hS))) (edty 5 rfl (by kernel_rfl) rfl rfl rfl (fun w' hS => bi rfl rfl rfl) (edt 6 rfl (by kernel_rfl) (fun w' hS => pk rfl rfl) (edt 7 rfl (by kernel_rfl) (fun w' hS => mv rfl) ?_)))))))
    refine spne 15 rfl (fun h64 => ?_) (fun h64 => ?_)
    · refine edtn 8 rfl (by kernel_rfl) rfl rfl rfl (edtn 9 rfl (by kernel_rfl) rfl rfl rfl (edtn 10 rfl (by kernel_rfl) rfl rfl rfl (edt 11 rfl (by kernel_rfl) (fun w' hS => pk rfl rfl) (edt 12 rfl (by kernel_rfl) (fun w' hS => mv rfl) (edtn 13 rfl (by kernel_rfl) rfl rfl rfl (edtn 14 rfl (by kernel_rfl) rfl rfl rfl (edtn 15 rfl (by kernel_rfl) rfl rfl rfl (edtn 16 rfl (by kernel_rfl) rfl rfl rfl (edtn 17 rfl (by kernel_rfl) rfl rfl rfl (edtn 18 rfl (by kernel_rfl) rfl rfl rfl ?_))))))))))
      have H6 : Hold w [] w4 [rB g3 42 ([.int .i64 (hq xs), .int .i64 (hs_ xs), .int .i64 (hb_ xs)]), rB g2 80 ([.bool false, .int .i64 0, .int .i64 0, .int .i64 0])] := Hold.news H5 H5d0
      clear H5d0 H5
      refine ed1 19 (by kernel_rfl) <| eur rfl (pk rfl rfl) (.inl (by kernel_rfl)) ?_
      refine edd (by kernel_rfl) ?_
      refine ct rfl (sq ?_)
      refine gen (fun ρ => ρ 2 = .pointer (some ⟨g2, 0, none⟩) ∧ ρ 3 = .pointer (some ⟨g3, 0, none⟩) ∧ True) ⟨rfl, rfl, trivial⟩ ?_
      rintro ρ ⟨z2, z3, -⟩
      have b6 : B w4 g2 80 ([.bool false, .int .i64 0, .int .i64 0, .int .i64 0]) := Hold.blk H6 1 rfl
      refine rg (r (bd (r := [.bool false, .int .i64 0, .int .i64 0, .int .i64 0]) ti80 pl80 pn rfl) (ef0 (xst (vs := [.bool false, .int .i64 0, .int .i64 0, .int .i64 0]) ti80 z2 rfl rfl b6 rfl (Nat.le_of_ble_eq_true rfl) (one_all rfl)) ?_))
      rintro w7 ⟨-, b7, c7⟩
      have H7 : Hold w [] w7 [rB g3 42 ([.int .i64 (hq xs), .int .i64 (hs_ xs), .int .i64 (hb_ xs)]), rB g2 80 ([.bool false, .int .i64 0, .int .i64 0, .int .i64 0])] := Hold.setB H6 1 rfl b7 c7 rfl
      clear H6
      clear b7 c7
      refine re (rt ?_)
      have hD : ¬ decH xs := fun e => h64 (by have := e.1; omega)
      rw [decide_eq_false hD, dV_no hD, dV_no hD, dV_no hD]
      have b8 : B w7 g2 80 ([.bool false, .int .i64 0, .int .i64 0, .int .i64 0]) := Hold.blk H7 1 rfl
      exact finc  (cs := [.bool false, .int .i64 0, .int .i64 0, .int .i64 0]) Try.results62 Try.underlying80 rfl ti80 z2 b8 rfl  ⟨rfl, Hold.ch H7⟩
    · have h64' : xs.length = 64 := by omega
      have b6 : B w4 g3 42 ([.int .i64 (hq xs), .int .i64 (hs_ xs), .int .i64 (hb_ xs)]) := Hold.blk H5 0 rfl
      refine edty 8 rfl (by kernel_rfl) rfl rfl rfl (fun w' hS => lab [.int .i64 (hq xs), .int .i64 (hs_ xs), .int .i64 (hb_ xs)] Try.underlying42 rfl ti42 rfl (hS.b0 b6) rfl rfl) (ed1 9 (by kernel_rfl) <| eucg rfl rfl rfl rfl go98 (ac rfl an) (Header_valid) ?_)
      rintro r wv ⟨rfl, cv⟩
      have H6d : Hold w4 [] wv [] := Hold.t H5d0 cv
      clear H5d0
      clear cv
      refine ⟨.inr (Hold.ch H6d), ?_⟩
      refine edty 10 rfl (by kernel_rfl) rfl rfl rfl (fun w' hS => nt rfl) (edt 11 rfl (by kernel_rfl) (fun w' hS => pk rfl rfl) (edt 12 rfl (by kernel_rfl) (fun w' hS => mv rfl) ?_))
      refine spne 20 rfl (fun hh => ?_) (fun hh => ?_)
      · refine edtn 13 rfl (by kernel_rfl) rfl rfl rfl (edtn 14 rfl (by kernel_rfl) rfl rfl rfl (edtn 15 rfl (by kernel_rfl) rfl rfl rfl (edtn 16 rfl (by kernel_rfl) rfl rfl rfl (edtn 17 rfl (by kernel_rfl) rfl rfl rfl (edtn 18 rfl (by kernel_rfl) rfl rfl rfl ?_)))))
        have H7 : Hold w [] wv [rB g3 42 ([.int .i64 (hq xs), .int .i64 (hs_ xs), .int .i64 (hb_ xs)]), rB g2 80 ([.bool false, .int .i64 0, .int .i64 0, .int .i64 0])] := Hold.news H5 H6d
        clear H6d H5
        refine ed1 19 (by kernel_rfl) <| eur rfl (pk rfl rfl) (.inl (by kernel_rfl)) ?_
        refine edd (by kernel_rfl) ?_
        refine ct rfl (sq ?_)
        refine gen (fun ρ => ρ 2 = .pointer (some ⟨g2, 0, none⟩) ∧ ρ 3 = .pointer (some ⟨g3, 0, none⟩) ∧ True) ⟨rfl, rfl, trivial⟩ ?_
        rintro ρ ⟨z2, z3, -⟩
        have b8 : B wv g2 80 ([.bool false, .int .i64 0, .int .i64 0, .int .i64 0]) := Hold.blk H7 1 rfl
        refine rg (r (bd (r := [.bool false, .int .i64 0, .int .i64 0, .int .i64 0]) ti80 pl80 pn rfl) (ef0 (xst (vs := [.bool false, .int .i64 0, .int .i64 0, .int .i64 0]) ti80 z2 rfl rfl b8 rfl (Nat.le_of_ble_eq_true rfl) (one_all rfl)) ?_))
        rintro w9 ⟨-, b9, c9⟩
        have H8 : Hold w [] w9 [rB g3 42 ([.int .i64 (hq xs), .int .i64 (hs_ xs), .int .i64 (hb_ xs)]), rB g2 80 ([.bool false, .int .i64 0, .int .i64 0, .int .i64 0])] := Hold.setB H7 1 rfl b9 c9 rfl
        clear H7
        clear b9 c9
        refine re (rt ?_)
        have hD : ¬ decH xs := fun e => hh e.2.1
        rw [decide_eq_false hD, dV_no hD, dV_no hD, dV_no hD]
        have b10 : B w9 g2 80 ([.bool false, .int .i64 0, .int .i64 0, .int .i64 0]) := Hold.blk H8 1 rfl
        exact finc  (cs := [.bool false, .int .i64 0, .int .i64 0, .int .i64 0]) Try.results62 Try.underlying80 rfl ti80 z2 b10 rfl  ⟨rfl, Hold.ch H8⟩
      · obtain ⟨ad8, c8, e8⟩ := Kd.R.adr ((hx.t (Hold.ch H5)).t (Hold.ch H6d)) (by omega)
        refine edty 13 rfl (by kernel_rfl) rfl rfl rfl (fun w' hS => lab [.int .i64 (hq xs), .int .i64 (hs_ xs), .int .i64 (hb_ xs)] Try.underlying42 rfl ti42 rfl (hS.b0 b6) rfl rfl) (edty 15 rfl (by kernel_rfl) rfl rfl rfl (fun w' hS => mv rfl) (edty 16 rfl (by kernel_rfl) rfl rfl rfl (fun w' hS => s2a Try.underlying121 (e8) (by omega)) (edty 17 rfl (by kernel_rfl) rfl rfl rfl (fun w' hS => lar Try.underlying121 ti121 e8 ((hx.t (Hold.ch H5)).t hS) (by omega) rfl) (ed1 14 (by kernel_rfl) <| eucg rfl rfl rfl rfl go99 (ac rfl an) (Header_block hh) ?_))))
        rintro r wb ⟨rfl, cb⟩
        have H7d : Hold w4 [] wb [] := Hold.t H6d cb
        clear H6d
        clear cb
        refine ⟨.inr (Hold.ch H7d), ?_⟩
        refine edty 18 rfl (by kernel_rfl) rfl rfl rfl (fun w' hS => ane Try.underlying121 Try.underlying5 ti5 (by kernel_rfl) rfl rfl (encH_len _ _ _) (by simp; omega)) ?_
        have H8 : Hold w [] wb [rB g3 42 ([.int .i64 (hq xs), .int .i64 (hs_ xs), .int .i64 (hb_ xs)]), rB g2 80 ([.bool false, .int .i64 0, .int .i64 0, .int .i64 0])] := Hold.news H5 H7d
        clear H7d H5
        refine ed1 19 (by kernel_rfl) <| eur rfl (pk rfl rfl) (.inl (by kernel_rfl)) ?_
        refine edd (by kernel_rfl) ?_
        refine cpn rfl (fun he => ?_) (fun he => ?_)
        · refine sq ?_
          refine gen (fun ρ => ρ 2 = .pointer (some ⟨g2, 0, none⟩) ∧ ρ 3 = .pointer (some ⟨g3, 0, none⟩) ∧ True) ⟨rfl, rfl, trivial⟩ ?_
          rintro ρ ⟨z2, z3, -⟩
          have b10 : B wb g2 80 ([.bool false, .int .i64 0, .int .i64 0, .int .i64 0]) := Hold.blk H8 1 rfl
          refine rg (r (bd (r := [.bool false, .int .i64 0, .int .i64 0, .int .i64 0]) ti80 pl80 pn rfl) (ef0 (xst (vs := [.bool false, .int .i64 0, .int .i64 0, .int .i64 0]) ti80 z2 rfl rfl b10 rfl (Nat.le_of_ble_eq_true rfl) (one_all rfl)) ?_))
          rintro w11 ⟨-, b11, c11⟩
          have H9 : Hold w [] w11 [rB g3 42 ([.int .i64 (hq xs), .int .i64 (hs_ xs), .int .i64 (hb_ xs)]), rB g2 80 ([.bool false, .int .i64 0, .int .i64 0, .int .i64 0])] := Hold.setB H8 1 rfl b11 c11 rfl
          clear H8
          clear b11 c11
          refine re (rt ?_)
          have hD : ¬ decH xs := fun e => he (by rw [List.take_of_length_le (by omega)]; exact e.2.2)
          rw [decide_eq_false hD, dV_no hD, dV_no hD, dV_no hD]
          have b12 : B w11 g2 80 ([.bool false, .int .i64 0, .int .i64 0, .int .i64 0]) := Hold.blk H9 1 rfl
          exact finc  (cs := [.bool false, .int .i64 0, .int .i64 0, .int .i64 0]) Try.results62 Try.underlying80 rfl ti80 z2 b12 rfl  ⟨rfl, Hold.ch H9⟩
        · have hD : decH xs := ⟨h64', hh, by rw [List.take_of_length_le (by omega)] at he; exact he⟩
          rw [decide_eq_true hD, dV_yes hD, dV_yes hD, dV_yes hD]
          refine sk (sq ?_)
          refine gen (fun ρ => ρ 2 = .pointer (some ⟨g2, 0, none⟩) ∧ ρ 3 = .pointer (some ⟨g3, 0, none⟩) ∧ True) ⟨rfl, rfl, trivial⟩ ?_
          rintro ρ ⟨z2, z3, -⟩
          have b10 : B wb g3 42 ([.int .i64 (hq xs), .int .i64 (hs_ xs), .int .i64 (hb_ xs)]) := Hold.blk H8 0 rfl
          have b11 : B wb g2 80 ([.bool false, .int .i64 0, .int .i64 0, .int .i64 0]) := Hold.blk H8 1 rfl
          refine rg (r (lab [.int .i64 (hq xs), .int .i64 (hs_ xs), .int .i64 (hb_ xs)] Try.underlying42 rfl ti42 z3 b10 rfl rfl) (r (bd (r := [.bool true, .int .i64 (hq xs), .int .i64 (hs_ xs), .int .i64 (hb_ xs)]) ti80 pl80 (pc rfl (cel1 rfl) (pc rfl rfl pn)) rfl) (ef0 (xst (vs := [.bool true, .int .i64 (hq xs), .int .i64 (hs_ xs), .int .i64 (hb_ xs)]) ti80 z2 rfl rfl b11 rfl (Nat.le_of_ble_eq_true rfl) (one_all rfl)) ?_)))
          rintro w12 ⟨-, b12, c12⟩
          have H9 : Hold w [] w12 [rB g3 42 ([.int .i64 (hq xs), .int .i64 (hs_ xs), .int .i64 (hb_ xs)]), rB g2 80 ([.bool true, .int .i64 (hq xs), .int .i64 (hs_ xs), .int .i64 (hb_ xs)])] := Hold.setB H8 1 rfl b12 c12 rfl
          clear H8
          clear b12 c12
          refine re (rt ?_)
          have b13 : B w12 g2 80 ([.bool true, .int .i64 (hq xs), .int .i64 (hs_ xs), .int .i64 (hb_ xs)]) := Hold.blk H9 1 rfl
          exact finc  (cs := [.bool true, .int .i64 (hq xs), .int .i64 (hs_ xs), .int .i64 (hb_ xs)]) Try.results62 Try.underlying80 rfl ti80 z2 b13 rfl  ⟨rfl, Hold.ch H9⟩
  · have H4 : Hold w [] wr [rB g3 42 ([.int .i64 0, .int .i64 0, .int .i64 0]), rB g2 80 ([.bool false, .int .i64 0, .int .i64 0, .int .i64 0])] := Hold.call K3 Hr
    clear H3
    refine r (sa rfl) (re (sq (sq ?_)))
    refine rde mixed ?_
    intro w4 c4
    have H5 : Hold w [] w4 [rB g3 42 ([.int .i64 0, .int .i64 0, .int .i64 0]), rB g2 80 ([.bool false, .int .i64 0, .int .i64 0, .int .i64 0])] := Hold.t H4 c4
    clear H4
    clear c4
    have H5d0 : Hold w4 [] w4 [] := Hold.start w4
    refine ⟨fun w' => Ch [] w4 w', Ch.refl _ _, ?_⟩
    refine edt 0 rfl (by kernel_rfl) (fun w' hS => mv rfl) (edt 1 rfl (by kernel_rfl) (fun w' hS => nt rfl) (edt 2 rfl (by kernel_rfl) (fun w' hS => mv rfl) (edtn 3 rfl (by kernel_rfl) rfl rfl rfl (edtn 4 rfl (by kernel_rfl) rfl rfl rfl (edtn 5 rfl (by kernel_rfl) rfl rfl rfl (edt 6 rfl (by kernel_rfl) (fun w' hS => pk rfl rfl) (edt 7 rfl (by kernel_rfl) (fun w' hS => mv rfl) (edtn 8 rfl (by kernel_rfl) rfl rfl rfl (edtn 9 rfl (by kernel_rfl) rfl rfl rfl (edtn 10 rfl (by kernel_rfl) rfl rfl rfl (edt 11 rfl (by kernel_rfl) (fun w' hS => pk rfl rfl) (edt 12 rfl (by kernel_rfl) (fun w' hS => mv rfl) (edtn 13 rfl (by kernel_rfl) rfl rfl rfl (edtn 14 rfl (by kernel_rfl) rfl rfl rfl (edtn 15 rfl (by kernel_rfl) rfl rfl rfl (edtn 16 rfl (by kernel_rfl) rfl rfl rfl (edtn 17 rfl (by kernel_rfl) rfl rfl rfl (edtn 18 rfl (by kernel_rfl) rfl rfl rfl ?_))))))))))))))))))
    have H6 : Hold w [] w4 [rB g3 42 ([.int .i64 0, .int .i64 0, .int .i64 0]), rB g2 80 ([.bool false, .int .i64 0, .int .i64 0, .int .i64 0])] := Hold.news H5 H5d0
    clear H5d0 H5
    refine ed1 19 (by kernel_rfl) <| eur rfl (pk rfl rfl) (.inl (by kernel_rfl)) ?_
    refine edd (by kernel_rfl) ?_
    refine ct rfl (sq ?_)
    refine gen (fun ρ => ρ 2 = .pointer (some ⟨g2, 0, none⟩) ∧ ρ 3 = .pointer (some ⟨g3, 0, none⟩) ∧ True) ⟨rfl, rfl, trivial⟩ ?_
    rintro ρ ⟨z2, z3, -⟩
    have b6 : B w4 g2 80 ([.bool false, .int .i64 0, .int .i64 0, .int .i64 0]) := Hold.blk H6 1 rfl
    refine rg (r (bd (r := [.bool false, .int .i64 0, .int .i64 0, .int .i64 0]) ti80 pl80 pn rfl) (ef0 (xst (vs := [.bool false, .int .i64 0, .int .i64 0, .int .i64 0]) ti80 z2 rfl rfl b6 rfl (Nat.le_of_ble_eq_true rfl) (one_all rfl)) ?_))
    rintro w7 ⟨-, b7, c7⟩
    have H7 : Hold w [] w7 [rB g3 42 ([.int .i64 0, .int .i64 0, .int .i64 0]), rB g2 80 ([.bool false, .int .i64 0, .int .i64 0, .int .i64 0])] := Hold.setB H6 1 rfl b7 c7 rfl
    clear H6
    clear b7 c7
    refine re (rt ?_)
    have hD : ¬ decH xs := fun e => by have := e.1; omega
    rw [decide_eq_false hD, dV_no hD, dV_no hD, dV_no hD]
    have b8 : B w7 g2 80 ([.bool false, .int .i64 0, .int .i64 0, .int .i64 0]) := Hold.blk H7 1 rfl
    exact finc  (cs := [.bool false, .int .i64 0, .int .i64 0, .int .i64 0]) Try.results62 Try.underlying80 rfl ti80 z2 b8 rfl  ⟨rfl, Hold.ch H7⟩
theorem ok8_app {xs ys : List Int} (h : ok8 xs) (h' : ok8 ys) : ok8 (xs ++ ys) := fun x hx => (List.mem_append.1 hx).elim (h x) (h' x)
theorem ok8_rep (n : Nat) : ok8 (List.replicate n 0) := fun x hx => by rw [List.eq_of_mem_replicate hx]; omega
theorem ok8_big (v : Int) (n : Nat) : ok8 (big v n) := by
  induction n generalizing v with
  | zero => intro x hx; cases hx
  | succ n ih =>
    refine ok8_app (ih _) (fun x hx => ?_)
    rw [List.mem_singleton.1 hx]; omega
theorem ok8_encHeader (q s b : Int) : ok8 (encHeader q s b) := by
  unfold encHeader; split
  · exact ok8_app (ok8_app (ok8_app (ok8_app (ok8_big _ _) (ok8_big _ _)) (ok8_big _ _)) (ok8_rep _)) (ok8_big _ _)
  · intro x hx; cases hx
theorem decH_iff {xs : List Int} (ok : ok8 xs) (hl : xs.length = 64) : mkS (encHeader (hq xs) (hs_ xs) (hb_ xs)) = mkS xs ↔ decH xs := by
  constructor
  · intro h
    have h1 := mkS_inj (ok8_encHeader _ _ _) ok h
    have hh : hdr (hq xs) (hs_ xs) (hb_ xs) := by
      by_cases hh : hdr (hq xs) (hs_ xs) (hb_ xs)
      · exact hh
      · rw [encHeader, if_neg hh] at h1
        rw [← h1] at hl; simp at hl
    rw [encHeader, if_pos hh] at h1
    exact ⟨hl, hh, h1⟩
  · rintro ⟨_, hh, h1⟩
    rw [encHeader, if_pos hh, h1]
theorem spec_DecodeHeader {w : World} {F : List Nat} {v : Value} {xs : List Int} (hx : u8.R w F v xs) (lx : xs.length ≤ 1000000000) (ok : ok8 xs) :
    Ret Try.prog 60 #[v] w (fun r w' => r = .agg #[.bool (decide (decH xs)), .int .i64 (dV xs (hq xs)), .int .i64 (dV xs (hs_ xs)), .int .i64 (dV xs (hb_ xs))] ∧ Ch [] w w') := by
  refine enter Try.func60 rfl Try.ntmps60 (by rfl) (by rfl) ?_
  have H0 : Hold w [] w [] := Hold.start w
  refine sq (rg (ef (xal ti80) ?_))
  rintro _ w1 ⟨g2, e1, rfl, -, b1, c1⟩
  have H1 : Hold w [] w1 [rB g2 80 ([.bool false, .int .i64 0, .int .i64 0, .int .i64 0])] := Hold.newB H0 e1 b1 c1
  clear H0
  clear e1 b1 c1
  refine re (sq (sq (rg (r (mv rfl) (r (ln Try.underlying40 rfl ((hx.t (Hold.ch H1)))) (r (bi rfl rfl rfl) (r (mv rfl) ?_)))))))
  refine spn 7 rfl (fun h64 => ?_) (fun h64 => ?_)
  · refine gn rfl rfl rfl (gn rfl rfl rfl (gn rfl rfl rfl (gn rfl rfl rfl (r (pk rfl rfl) (re (ct rfl (sq ?_)))))))
    refine gen (fun ρ => ρ 0 = v ∧ ρ 2 = .pointer (some ⟨g2, 0, none⟩) ∧ True) ⟨rfl, rfl, trivial⟩ ?_
    rintro ρ ⟨z0, z2, -⟩
    have b2 : B w1 g2 80 ([.bool false, .int .i64 0, .int .i64 0, .int .i64 0]) := Hold.blk H1 0 rfl
    refine rg (r (bd (r := [.bool false, .int .i64 0, .int .i64 0, .int .i64 0]) ti80 pl80 pn rfl) (ef0 (xst (vs := [.bool false, .int .i64 0, .int .i64 0, .int .i64 0]) ti80 z2 rfl rfl b2 rfl (Nat.le_of_ble_eq_true rfl) (one_all rfl)) ?_))
    rintro w3 ⟨-, b3, c3⟩
    have H2 : Hold w [] w3 [rB g2 80 ([.bool false, .int .i64 0, .int .i64 0, .int .i64 0])] := Hold.setB H1 0 rfl b3 c3 rfl
    clear H1
    clear b3 c3
    refine re (rt ?_)
    have hD : ¬ decH xs := fun e => h64 (by have := e.1; omega)
    rw [decide_eq_false hD, dV_no hD, dV_no hD, dV_no hD]
    have b4 : B w3 g2 80 ([.bool false, .int .i64 0, .int .i64 0, .int .i64 0]) := Hold.blk H2 0 rfl
    exact finc  (cs := [.bool false, .int .i64 0, .int .i64 0, .int .i64 0]) Try.results60 Try.underlying80 rfl ti80 z2 b4 rfl  ⟨rfl, Hold.ch H2⟩
  · have h64' : xs.length = 64 := by omega
    obtain ⟨h81, h82⟩ := eight (ok8_take ok 8) (by simp; omega)
    rw [take_get (by omega)] at h81 h82
    obtain ⟨hi1, hi2⟩ := hs_id ok (by omega)
    refine gy rfl rfl rfl (r (mv rfl) (gy rfl rfl rfl ?_))
    obtain ⟨c9_2, ad9_2, k9_2, e9_2, p9_2⟩ := Kd.R.place hx 0 (by omega)
    refine r (ix (j := 0) Try.underlying40 ti5 e9_2 rfl (by omega)) (gy rfl rfl rfl (r (ld Try.underlying5 rfl rfl (Ch.cell (Hold.ch H1) p9_2.cell)) (gy rfl rfl rfl (r (bi rfl rfl rfl) (r (pk rfl rfl) (re ?_))))))
    refine cp rfl (fun h127 => ?_) (fun h127 => ?_)
    · refine sq ?_
      refine gen (fun ρ => ρ 0 = v ∧ ρ 2 = .pointer (some ⟨g2, 0, none⟩) ∧ True) ⟨rfl, rfl, trivial⟩ ?_
      rintro ρ ⟨z0, z2, -⟩
      have b3 : B w1 g2 80 ([.bool false, .int .i64 0, .int .i64 0, .int .i64 0]) := Hold.blk H1 0 rfl
      refine rg (r (bd (r := [.bool false, .int .i64 0, .int .i64 0, .int .i64 0]) ti80 pl80 pn rfl) (ef0 (xst (vs := [.bool false, .int .i64 0, .int .i64 0, .int .i64 0]) ti80 z2 rfl rfl b3 rfl (Nat.le_of_ble_eq_true rfl) (one_all rfl)) ?_))
      rintro w4 ⟨-, b4, c4⟩
      have H2 : Hold w [] w4 [rB g2 80 ([.bool false, .int .i64 0, .int .i64 0, .int .i64 0])] := Hold.setB H1 0 rfl b4 c4 rfl
      clear H1
      clear b4 c4
      refine re (rt ?_)
      have hD : ¬ decH xs := fun e => by have h1 := h82 h127; have h2 := e.2.1.1; unfold hq at h2; omega
      rw [decide_eq_false hD, dV_no hD, dV_no hD, dV_no hD]
      have b5 : B w4 g2 80 ([.bool false, .int .i64 0, .int .i64 0, .int .i64 0]) := Hold.blk H2 0 rfl
      exact finc  (cs := [.bool false, .int .i64 0, .int .i64 0, .int .i64 0]) Try.results60 Try.underlying80 rfl ti80 z2 b5 rfl  ⟨rfl, Hold.ch H2⟩
    · have hi0 : hq xs = unbig (xs.take 8) := i64_id ⟨by have := unbig_nn (ok8_take ok 8); omega, h81 (by omega)⟩
      refine sk (sq ?_)
      refine gen (fun ρ => ρ 0 = v ∧ ρ 2 = .pointer (some ⟨g2, 0, none⟩) ∧ True) ⟨rfl, rfl, trivial⟩ ?_
      rintro ρ ⟨z0, z2, -⟩
      refine rde_cut (fun ρ w' => ∃ g3 : Nat, ρ 0 = v ∧ ρ 2 = .pointer (some ⟨g2, 0, none⟩) ∧ ρ 3 = .pointer (some ⟨g3, 0, none⟩) ∧ Hold w [] w' [rB g2 80 ([.bool false, .int .i64 0, .int .i64 0, .int .i64 0]), rB g3 42 ([.int .i64 (hq xs), .int .i64 (hs_ xs), .int .i64 (hb_ xs)])]) mixed ?_ ?_
      · intro w4 c4
        have H2 : Hold w [] w4 [rB g2 80 ([.bool false, .int .i64 0, .int .i64 0, .int .i64 0])] := Hold.t H1 c4
        clear H1
        clear c4
        have H5d0 : Hold w4 [] w4 [] := Hold.start w4
        refine ⟨fun w' => Ch [] w4 w', Ch.refl _ _, ?_⟩
        refine edt 0 rfl (by kernel_rfl) (fun w' hS => mv z0) (edt 1 rfl (by kernel_rfl) (fun w' hS => slrh (8) Try.underlying40 ti5 ((hx.t (Hold.ch H2)).t hS) rfl rfl (by omega)) (edt 3 rfl (by kernel_rfl) (fun w' hS => mv z0) (edt 4 rfl (by kernel_rfl) (fun w' hS => slr (8) (10) Try.underlying40 ti5 ((hx.t (Hold.ch H2)).t hS) rfl rfl rfl (by omega)) (edt 6 rfl (by kernel_rfl) (fun w' hS => mv z0) (edt 7 rfl (by kernel_rfl) (fun w' hS => slr (10) (12) Try.underlying40 ti5 ((hx.t (Hold.ch H2)).t hS) rfl rfl rfl (by omega)) ?_)))))
        refine ed2 2 10 (by kernel_rfl) ?_ ?_
        · obtain ⟨F7, u7, R7⟩ := Kd.R.sl ((hx.t (Hold.ch H2)).t (Hold.ch H5d0)) (0) (8) (by first | omega | (simp; omega)) (by first | omega | (simp; omega))
          have e7 : (xs.take 8).drop 0 = xs.take 8 := by first | (rw [List.take_length, List.drop_drop]; done) | (rw [List.drop_take]; done) | (simp; done) | (rw [List.take_length, List.drop_drop]; congr 1; omega)
          rw [e7] at R7
          refine euc rfl go118 (ac rfl an) (l2Number R7 (by simp; omega) (by first | exact ok8_take ok _ | exact ok8_take (ok8_drop ok _) _) (by first | exact h81 (by omega) | exact Int.le_trans (unbig_2 (ok8_take (ok8_drop ok _) _) (by simp; omega)) (by omega))) ?_
          rintro r wna ⟨era, Hna⟩
          rw [← hi0] at era
          subst era
          have H3d : Hold w4 [] wna [] := Hold.news H5d0 Hna
          clear H5d0
          clear Hna
          refine ⟨.inr (Hold.ch H3d), ?_⟩
          refine ed2 5 10 (by kernel_rfl) ?_ ?_
          · obtain ⟨F9, u9, R9⟩ := Kd.R.sl ((hx.t (Hold.ch H2)).t (Hold.ch H3d)) (8) (10) (by first | omega | (simp; omega)) (by first | omega | (simp; omega))
            have e9 : (xs.take 10).drop 8 = (xs.drop 8).take 2 := by first | (rw [List.take_length, List.drop_drop]; done) | (rw [List.drop_take]; done) | (simp; done) | (rw [List.take_length, List.drop_drop]; congr 1; omega)
            rw [e9] at R9
            refine euc rfl go118 (ac rfl an) (l2Number R9 (by simp; omega) (by first | exact ok8_take ok _ | exact ok8_take (ok8_drop ok _) _) (by first | exact h81 (by omega) | exact Int.le_trans (unbig_2 (ok8_take (ok8_drop ok _) _) (by simp; omega)) (by omega))) ?_
            rintro r wnb ⟨erb, Hnb⟩
            rw [← hi1] at erb
            subst erb
            have H4d : Hold w4 [] wnb [] := Hold.news H3d Hnb
            clear H3d
            clear Hnb
            refine ⟨.inr (Hold.ch H4d), ?_⟩
            refine ed2 8 10 (by kernel_rfl) ?_ ?_
            · obtain ⟨F11, u11, R11⟩ := Kd.R.sl ((hx.t (Hold.ch H2)).t (Hold.ch H4d)) (10) (12) (by first | omega | (simp; omega)) (by first | omega | (simp; omega))
              have e11 : (xs.take 12).drop 10 = (xs.drop 10).take 2 := by first | (rw [List.take_length, List.drop_drop]; done) | (rw [List.drop_take]; done) | (simp; done) | (rw [List.take_length, List.drop_drop]; congr 1; omega)
              rw [e11] at R11
              refine euc rfl go118 (ac rfl an) (l2Number R11 (by simp; omega) (by first | exact ok8_take ok _ | exact ok8_take (ok8_drop ok _) _) (by first | exact h81 (by omega) | exact Int.le_trans (unbig_2 (ok8_take (ok8_drop ok _) _) (by simp; omega)) (by omega))) ?_
              rintro r wnc ⟨erc, Hnc⟩
              rw [← hi2] at erc
              subst erc
              have H5d : Hold w4 [] wnc [] := Hold.news H4d Hnc
              clear H4d
              clear Hnc
              refine ⟨.inr (Hold.ch H5d), ?_⟩
              refine edt 9 rfl (by kernel_rfl) (fun w' hS => bd (r := [.int .i64 (hq xs), .int .i64 (hs_ xs), .int .i64 (hb_ xs)]) ti42 pl42 (pc rfl (cel1 rfl) (pc rfl (cel1 rfl) (pc rfl (cel1 rfl) pn))) rfl) (ed1 10 (by kernel_rfl) <| euf rfl (xal ti42) ?_)
              rintro _ w12 ⟨g3, e12, rfl, -, b12, c12⟩
              have H6d : Hold w4 [] w12 [rB g3 42 ([.int .i64 0, .int .i64 0, .int .i64 0])] := Hold.newB H5d e12 b12 c12
              clear H5d
              clear e12 b12 c12
              refine ⟨.inr (Hold.ch H6d), ?_⟩
              have H7 : Hold w [] w12 [rB g2 80 ([.bool false, .int .i64 0, .int .i64 0, .int .i64 0]), rB g3 42 ([.int .i64 0, .int .i64 0, .int .i64 0])] := Hold.news H2 H6d
              clear H6d H2
              have b13 : B w12 g3 42 ([.int .i64 0, .int .i64 0, .int .i64 0]) := Hold.blk H7 1 rfl
              refine ed1 11 (by kernel_rfl) <| euf0 rfl (xst (vs := [.int .i64 (hq xs), .int .i64 (hs_ xs), .int .i64 (hb_ xs)]) ti42 rfl rfl rfl b13 rfl (Nat.le_of_ble_eq_true rfl) (one_all rfl)) ?_
              rintro w14 ⟨-, b14, c14⟩
              have H8 : Hold w [] w14 [rB g2 80 ([.bool false, .int .i64 0, .int .i64 0, .int .i64 0]), rB g3 42 ([.int .i64 (hq xs), .int .i64 (hs_ xs), .int .i64 (hb_ xs)])] := Hold.setB H7 1 rfl b14 c14 rfl
              clear H7
              clear b14 c14
              refine ⟨.inl (by kernel_rfl), ?_⟩
              refine edd (by kernel_rfl) ?_
              exact ⟨g3, z0, z2, rfl, H8⟩
            · refine euf rfl (xal ti42) ?_
              rintro _ w10 ⟨g3, e10, rfl, -, b10, c10⟩
              have H5d : Hold w4 [] w10 [rB g3 42 ([.int .i64 0, .int .i64 0, .int .i64 0])] := Hold.newB H4d e10 b10 c10
              clear H4d
              clear e10 b10 c10
              refine ⟨.inr (Hold.ch H5d), ?_⟩
              obtain ⟨F12, u12, R12⟩ := Kd.R.sl ((hx.t (Hold.ch H2)).t (Hold.ch H5d)) (10) (12) (by first | omega | (simp; omega)) (by first | omega | (simp; omega))
              have e12 : (xs.take 12).drop 10 = (xs.drop 10).take 2 := by first | (rw [List.take_length, List.drop_drop]; done) | (rw [List.drop_take]; done) | (simp; done) | (rw [List.take_length, List.drop_drop]; congr 1; omega)
              rw [e12] at R12
              refine ed1 8 (by kernel_rfl) <| euc rfl go118 (ac rfl an) (l2Number R12 (by simp; omega) (by first | exact ok8_take ok _ | exact ok8_take (ok8_drop ok _) _) (by first | exact h81 (by omega) | exact Int.le_trans (unbig_2 (ok8_take (ok8_drop ok _) _) (by simp; omega)) (by omega))) ?_
              rintro r wnc ⟨erc, Hnc⟩
              rw [← hi2] at erc
              subst erc
              have H6d : Hold w4 [] wnc [rB g3 42 ([.int .i64 0, .int .i64 0, .int .i64 0])] := Hold.news H5d Hnc
              clear H5d
              clear Hnc
              refine ⟨.inr (Hold.ch H6d), ?_⟩
              have H7 : Hold w [] wnc [rB g2 80 ([.bool false, .int .i64 0, .int .i64 0, .int .i64 0]), rB g3 42 ([.int .i64 0, .int .i64 0, .int .i64 0])] := Hold.news H2 H6d
              clear H6d H2
              have b13 : B wnc g3 42 ([.int .i64 0, .int .i64 0, .int .i64 0]) := Hold.blk H7 1 rfl
              refine edt 9 rfl (by kernel_rfl) (fun w' hS => bd (r := [.int .i64 (hq xs), .int .i64 (hs_ xs), .int .i64 (hb_ xs)]) ti42 pl42 (pc rfl (cel1 rfl) (pc rfl (cel1 rfl) (pc rfl (cel1 rfl) pn))) rfl) (ed1 11 (by kernel_rfl) <| euf0 rfl (xst (vs := [.int .i64 (hq xs), .int .i64 (hs_ xs), .int .i64 (hb_ xs)]) ti42 rfl rfl rfl b13 rfl (Nat.le_of_ble_eq_true rfl) (one_all rfl)) ?_)
              rintro w14 ⟨-, b14, c14⟩
              have H8 : Hold w [] w14 [rB g2 80 ([.bool false, .int .i64 0, .int .i64 0, .int .i64 0]), rB g3 42 ([.int .i64 (hq xs), .int .i64 (hs_ xs), .int .i64 (hb_ xs)])] := Hold.setB H7 1 rfl b14 c14 rfl
              clear H7
              clear b14 c14
              refine ⟨.inl (by kernel_rfl), ?_⟩
              refine edd (by kernel_rfl) ?_
              exact ⟨g3, z0, z2, rfl, H8⟩
          · refine euf rfl (xal ti42) ?_
            rintro _ w8 ⟨g3, e8, rfl, -, b8, c8⟩
            have H4d : Hold w4 [] w8 [rB g3 42 ([.int .i64 0, .int .i64 0, .int .i64 0])] := Hold.newB H3d e8 b8 c8
            clear H3d
            clear e8 b8 c8
            refine ⟨.inr (Hold.ch H4d), ?_⟩
            obtain ⟨F10, u10, R10⟩ := Kd.R.sl ((hx.t (Hold.ch H2)).t (Hold.ch H4d)) (8) (10) (by first | omega | (simp; omega)) (by first | omega | (simp; omega))
            have e10 : (xs.take 10).drop 8 = (xs.drop 8).take 2 := by first | (rw [List.take_length, List.drop_drop]; done) | (rw [List.drop_take]; done) | (simp; done) | (rw [List.take_length, List.drop_drop]; congr 1; omega)
            rw [e10] at R10
            refine ed1 5 (by kernel_rfl) <| euc rfl go118 (ac rfl an) (l2Number R10 (by simp; omega) (by first | exact ok8_take ok _ | exact ok8_take (ok8_drop ok _) _) (by first | exact h81 (by omega) | exact Int.le_trans (unbig_2 (ok8_take (ok8_drop ok _) _) (by simp; omega)) (by omega))) ?_
            rintro r wnb ⟨erb, Hnb⟩
            rw [← hi1] at erb
            subst erb
            have H5d : Hold w4 [] wnb [rB g3 42 ([.int .i64 0, .int .i64 0, .int .i64 0])] := Hold.news H4d Hnb
            clear H4d
            clear Hnb
            refine ⟨.inr (Hold.ch H5d), ?_⟩
            obtain ⟨F12, u12, R12⟩ := Kd.R.sl ((hx.t (Hold.ch H2)).t (Hold.ch H5d)) (10) (12) (by first | omega | (simp; omega)) (by first | omega | (simp; omega))
            have e12 : (xs.take 12).drop 10 = (xs.drop 10).take 2 := by first | (rw [List.take_length, List.drop_drop]; done) | (rw [List.drop_take]; done) | (simp; done) | (rw [List.take_length, List.drop_drop]; congr 1; omega)
            rw [e12] at R12
            refine ed1 8 (by kernel_rfl) <| euc rfl go118 (ac rfl an) (l2Number R12 (by simp; omega) (by first | exact ok8_take ok _ | exact ok8_take (ok8_drop ok _) _) (by first | exact h81 (by omega) | exact Int.le_trans (unbig_2 (ok8_take (ok8_drop ok _) _) (by simp; omega)) (by omega))) ?_
            rintro r wnc ⟨erc, Hnc⟩
            rw [← hi2] at erc
            subst erc
            have H6d : Hold w4 [] wnc [rB g3 42 ([.int .i64 0, .int .i64 0, .int .i64 0])] := Hold.news H5d Hnc
            clear H5d
            clear Hnc
            refine ⟨.inr (Hold.ch H6d), ?_⟩
            have H7 : Hold w [] wnc [rB g2 80 ([.bool false, .int .i64 0, .int .i64 0, .int .i64 0]), rB g3 42 ([.int .i64 0, .int .i64 0, .int .i64 0])] := Hold.news H2 H6d
            clear H6d H2
            have b13 : B wnc g3 42 ([.int .i64 0, .int .i64 0, .int .i64 0]) := Hold.blk H7 1 rfl
            refine edt 9 rfl (by kernel_rfl) (fun w' hS => bd (r := [.int .i64 (hq xs), .int .i64 (hs_ xs), .int .i64 (hb_ xs)]) ti42 pl42 (pc rfl (cel1 rfl) (pc rfl (cel1 rfl) (pc rfl (cel1 rfl) pn))) rfl) (ed1 11 (by kernel_rfl) <| euf0 rfl (xst (vs := [.int .i64 (hq xs), .int .i64 (hs_ xs), .int .i64 (hb_ xs)]) ti42 rfl rfl rfl b13 rfl (Nat.le_of_ble_eq_true rfl) (one_all rfl)) ?_)
            rintro w14 ⟨-, b14, c14⟩
            have H8 : Hold w [] w14 [rB g2 80 ([.bool false, .int .i64 0, .int .i64 0, .int .i64 0]), rB g3 42 ([.int .i64 (hq xs), .int .i64 (hs_ xs), .int .i64 (hb_ xs)])] := Hold.setB H7 1 rfl b14 c14 rfl
            clear H7
            clear b14 c14
            refine ⟨.inl (by kernel_rfl), ?_⟩
            refine edd (by kernel_rfl) ?_
            exact ⟨g3, z0, z2, rfl, H8⟩
        · refine euf rfl (xal ti42) ?_
          rintro _ w6 ⟨g3, e6, rfl, -, b6, c6⟩
          have H3d : Hold w4 [] w6 [rB g3 42 ([.int .i64 0, .int .i64 0, .int .i64 0])] := Hold.newB H5d0 e6 b6 c6
          clear H5d0
          clear e6 b6 c6
          refine ⟨.inr (Hold.ch H3d), ?_⟩
          obtain ⟨F8, u8, R8⟩ := Kd.R.sl ((hx.t (Hold.ch H2)).t (Hold.ch H3d)) (0) (8) (by first | omega | (simp; omega)) (by first | omega | (simp; omega))
          have e8 : (xs.take 8).drop 0 = xs.take 8 := by first | (rw [List.take_length, List.drop_drop]; done) | (rw [List.drop_take]; done) | (simp; done) | (rw [List.take_length, List.drop_drop]; congr 1; omega)
          rw [e8] at R8
          refine ed1 2 (by kernel_rfl) <| euc rfl go118 (ac rfl an) (l2Number R8 (by simp; omega) (by first | exact ok8_take ok _ | exact ok8_take (ok8_drop ok _) _) (by first | exact h81 (by omega) | exact Int.le_trans (unbig_2 (ok8_take (ok8_drop ok _) _) (by simp; omega)) (by omega))) ?_
          rintro r wna ⟨era, Hna⟩
          rw [← hi0] at era
          subst era
          have H4d : Hold w4 [] wna [rB g3 42 ([.int .i64 0, .int .i64 0, .int .i64 0])] := Hold.news H3d Hna
          clear H3d
          clear Hna
          refine ⟨.inr (Hold.ch H4d), ?_⟩
          obtain ⟨F10, u10, R10⟩ := Kd.R.sl ((hx.t (Hold.ch H2)).t (Hold.ch H4d)) (8) (10) (by first | omega | (simp; omega)) (by first | omega | (simp; omega))
          have e10 : (xs.take 10).drop 8 = (xs.drop 8).take 2 := by first | (rw [List.take_length, List.drop_drop]; done) | (rw [List.drop_take]; done) | (simp; done) | (rw [List.take_length, List.drop_drop]; congr 1; omega)
          rw [e10] at R10
          refine ed1 5 (by kernel_rfl) <| euc rfl go118 (ac rfl an) (l2Number R10 (by simp; omega) (by first | exact ok8_take ok _ | exact ok8_take (ok8_drop ok _) _) (by first | exact h81 (by omega) | exact Int.le_trans (unbig_2 (ok8_take (ok8_drop ok _) _) (by simp; omega)) (by omega))) ?_
          rintro r wnb ⟨erb, Hnb⟩
          rw [← hi1] at erb
          subst erb
          have H5d : Hold w4 [] wnb [rB g3 42 ([.int .i64 0, .int .i64 0, .int .i64 0])] := Hold.news H4d Hnb
          clear H4d
          clear Hnb
          refine ⟨.inr (Hold.ch H5d), ?_⟩
          obtain ⟨F12, u12, R12⟩ := Kd.R.sl ((hx.t (Hold.ch H2)).t (Hold.ch H5d)) (10) (12) (by first | omega | (simp; omega)) (by first | omega | (simp; omega))
          have e12 : (xs.take 12).drop 10 = (xs.drop 10).take 2 := by first | (rw [List.take_length, List.drop_drop]; done) | (rw [List.drop_take]; done) | (simp; done) | (rw [List.take_length, List.drop_drop]; congr 1; omega)
          rw [e12] at R12
          refine ed1 8 (by kernel_rfl) <| euc rfl go118 (ac rfl an) (l2Number R12 (by simp; omega) (by first | exact ok8_take ok _ | exact ok8_take (ok8_drop ok _) _) (by first | exact h81 (by omega) | exact Int.le_trans (unbig_2 (ok8_take (ok8_drop ok _) _) (by simp; omega)) (by omega))) ?_
          rintro r wnc ⟨erc, Hnc⟩
          rw [← hi2] at erc
          subst erc
          have H6d : Hold w4 [] wnc [rB g3 42 ([.int .i64 0, .int .i64 0, .int .i64 0])] := Hold.news H5d Hnc
          clear H5d
          clear Hnc
          refine ⟨.inr (Hold.ch H6d), ?_⟩
          have H7 : Hold w [] wnc [rB g2 80 ([.bool false, .int .i64 0, .int .i64 0, .int .i64 0]), rB g3 42 ([.int .i64 0, .int .i64 0, .int .i64 0])] := Hold.news H2 H6d
          clear H6d H2
          have b13 : B wnc g3 42 ([.int .i64 0, .int .i64 0, .int .i64 0]) := Hold.blk H7 1 rfl
          refine edt 9 rfl (by kernel_rfl) (fun w' hS => bd (r := [.int .i64 (hq xs), .int .i64 (hs_ xs), .int .i64 (hb_ xs)]) ti42 pl42 (pc rfl (cel1 rfl) (pc rfl (cel1 rfl) (pc rfl (cel1 rfl) pn))) rfl) (ed1 11 (by kernel_rfl) <| euf0 rfl (xst (vs := [.int .i64 (hq xs), .int .i64 (hs_ xs), .int .i64 (hb_ xs)]) ti42 rfl rfl rfl b13 rfl (Nat.le_of_ble_eq_true rfl) (one_all rfl)) ?_)
          rintro w14 ⟨-, b14, c14⟩
          have H8 : Hold w [] w14 [rB g2 80 ([.bool false, .int .i64 0, .int .i64 0, .int .i64 0]), rB g3 42 ([.int .i64 (hq xs), .int .i64 (hs_ xs), .int .i64 (hb_ xs)])] := Hold.setB H7 1 rfl b14 c14 rfl
          clear H7
          clear b14 c14
          refine ⟨.inl (by kernel_rfl), ?_⟩
          refine edd (by kernel_rfl) ?_
          exact ⟨g3, z0, z2, rfl, H8⟩
      rintro ρ w551 ⟨g3, y0, y2, y3, H51⟩
      clear H1
      refine sq (sq ?_)
      refine rde mixed ?_
      intro w106 c106
      have H52 : Hold w [] w106 [rB g2 80 ([.bool false, .int .i64 0, .int .i64 0, .int .i64 0]), rB g3 42 ([.int .i64 (hq xs), .int .i64 (hs_ xs), .int .i64 (hb_ xs)])] := Hold.t H51 c106
      clear H51
      clear c106
      have H107d0 : Hold w106 [] w106 [] := Hold.start w106
      refine ⟨fun w' => Ch [] w106 w', Ch.refl _ _, ?_⟩
      have b108 : B w106 g3 42 ([.int .i64 (hq xs), .int .i64 (hs_ xs), .int .i64 (hb_ xs)]) := Hold.blk H52 1 rfl
      refine edt 0 rfl (by kernel_rfl) (fun w' hS => lab [.int .i64 (hq xs), .int .i64 (hs_ xs), .int .i64 (hb_ xs)] Try.underlying42 rfl ti42 y3 (hS.b0 b108) rfl rfl) (edt 3 rfl (by kernel_rfl) (fun w' hS => mv y0) (edt 4 rfl (by kernel_rfl) (fun w' hS => cvbs Try.underlying40 Try.underlying5 Try.underlying9 ((hx.t (Hold.ch H52)).t hS) rfl) ?_))
      refine ed1 1 (by kernel_rfl) <| euc rfl go33 (ac rfl an) (Ret.hold (d := u8) (e := 5) (spec_EncodeHeader (q := hq xs) (s := hs_ xs) (b := hb_ xs))) ?_
      rintro ree we He
      have H53d : Hold w106 [] we [rR u8 5 ree (encHeader (hq xs) (hs_ xs) (hb_ xs))] := Hold.news H107d0 He
      clear H107d0
      clear He
      refine ⟨.inr (Hold.ch H53d), ?_⟩
      obtain ⟨_, R110⟩ : ∃ F, Kd.R u8 we F ree (encHeader (hq xs) (hs_ xs) (hb_ xs)) := Hold.row H53d 0 rfl
      refine ed1 2 (by kernel_rfl) <| eur rfl (cvbs Try.underlying40 Try.underlying5 Try.underlying9 R110 rfl) (.inr (Hold.ch H53d)) ?_
      have H54 : Hold w [] we [rB g2 80 ([.bool false, .int .i64 0, .int .i64 0, .int .i64 0]), rB g3 42 ([.int .i64 (hq xs), .int .i64 (hs_ xs), .int .i64 (hb_ xs)]), rR u8 5 ree (encHeader (hq xs) (hs_ xs) (hb_ xs))] := Hold.news H52 H53d
      clear H53d H52
      refine ed1 5 (by kernel_rfl) <| eur rfl (sne rfl rfl) (.inl (by kernel_rfl)) ?_
      refine edd (by kernel_rfl) ?_
      refine cpn rfl (fun he => ?_) (fun he => ?_)
      · have b111 : B we g2 80 ([.bool false, .int .i64 0, .int .i64 0, .int .i64 0]) := Hold.blk H54 0 rfl
        refine sq (rg (r (bd (r := [.bool false, .int .i64 0, .int .i64 0, .int .i64 0]) ti80 pl80 pn rfl) (ef0 (xst (vs := [.bool false, .int .i64 0, .int .i64 0, .int .i64 0]) ti80 y2 rfl rfl b111 rfl (Nat.le_of_ble_eq_true rfl) (one_all rfl)) ?_)))
        rintro w112 ⟨-, b112, c112⟩
        have H55 : Hold w [] w112 [rB g2 80 ([.bool false, .int .i64 0, .int .i64 0, .int .i64 0]), rB g3 42 ([.int .i64 (hq xs), .int .i64 (hs_ xs), .int .i64 (hb_ xs)]), rR u8 5 ree (encHeader (hq xs) (hs_ xs) (hb_ xs))] := Hold.setB H54 0 rfl b112 c112 rfl
        clear H54
        clear b112 c112
        refine re (rt ?_)
        have hD : ¬ decH xs := fun e => he ((decH_iff ok h64').2 e)
        rw [decide_eq_false hD, dV_no hD, dV_no hD, dV_no hD]
        have b113 : B w112 g2 80 ([.bool false, .int .i64 0, .int .i64 0, .int .i64 0]) := Hold.blk H55 0 rfl
        exact finc  (cs := [.bool false, .int .i64 0, .int .i64 0, .int .i64 0]) Try.results60 Try.underlying80 rfl ti80 y2 b113 rfl  ⟨rfl, Hold.ch H55⟩
      · have hD := (decH_iff ok h64').1 he
        rw [decide_eq_true hD, dV_yes hD, dV_yes hD, dV_yes hD]
        have b111 : B we g3 42 ([.int .i64 (hq xs), .int .i64 (hs_ xs), .int .i64 (hb_ xs)]) := Hold.blk H54 1 rfl
        have b112 : B we g2 80 ([.bool false, .int .i64 0, .int .i64 0, .int .i64 0]) := Hold.blk H54 0 rfl
        refine sk (sq (rg (r (lab [.int .i64 (hq xs), .int .i64 (hs_ xs), .int .i64 (hb_ xs)] Try.underlying42 rfl ti42 y3 b111 rfl rfl) (r (bd (r := [.bool true, .int .i64 (hq xs), .int .i64 (hs_ xs), .int .i64 (hb_ xs)]) ti80 pl80 (pc rfl (cel1 rfl) (pc rfl rfl pn)) rfl) (ef0 (xst (vs := [.bool true, .int .i64 (hq xs), .int .i64 (hs_ xs), .int .i64 (hb_ xs)]) ti80 y2 rfl rfl b112 rfl (Nat.le_of_ble_eq_true rfl) (one_all rfl)) ?_)))))
        rintro w113 ⟨-, b113, c113⟩
        have H55 : Hold w [] w113 [rB g2 80 ([.bool true, .int .i64 (hq xs), .int .i64 (hs_ xs), .int .i64 (hb_ xs)]), rB g3 42 ([.int .i64 (hq xs), .int .i64 (hs_ xs), .int .i64 (hb_ xs)]), rR u8 5 ree (encHeader (hq xs) (hs_ xs) (hb_ xs))] := Hold.setB H54 0 rfl b113 c113 rfl
        clear H54
        clear b113 c113
        refine re (rt ?_)
        have b114 : B w113 g2 80 ([.bool true, .int .i64 (hq xs), .int .i64 (hs_ xs), .int .i64 (hb_ xs)]) := Hold.blk H55 0 rfl
        exact finc  (cs := [.bool true, .int .i64 (hq xs), .int .i64 (hs_ xs), .int .i64 (hb_ xs)]) Try.results60 Try.underlying80 rfl ti80 y2 b114 rfl  ⟨rfl, Hold.ch H55⟩
end Go.Proofs.Ytgpcanjmgdmdhaa
