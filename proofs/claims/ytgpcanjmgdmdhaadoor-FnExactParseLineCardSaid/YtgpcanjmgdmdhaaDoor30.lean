/-
  CONTRACTS 30: draws. No condition.
-/
import Derived.Test.YtgpcanjmgdmdhaaDoor22
namespace Go.Proofs.YtgpcanjmgdmdhaaDoor
open Go Go.Eng
set_option maxRecDepth 100000
set_option maxHeartbeats 4000000
set_option linter.unusedVariables false
set_option linter.unusedSimpArgs false
/-- A source of draws. -/
structure Src where
  code : List Int
  pt : Nat
  mix : Int
  size : Int
structure SrcOk (s : Src) : Prop where
  len : s.code.length ≤ 4000
  ok : ok8 s.code
  at_ : s.pt ≤ s.code.length
  m0 : 0 ≤ s.mix
  m1 : s.mix < 1000003
  s0 : 1 ≤ s.size
  s1 : s.size ≤ 7
def nx (s : Src) (n : Int) : Int × Src :=
  if n ≤ 1 then (0, s)
  else if h : s.pt < s.code.length ∧ n ≤ 256 then (s.code[s.pt] % n, { s with pt := s.pt + 1 })
  else (((s.mix * 1103 + 12347) % 1000003) / 3 % n, { s with mix := (s.mix * 1103 + 12347) % 1000003 })
theorem nx_ok {s : Src} {n : Int} (h : SrcOk s) : SrcOk (nx s n).2 := by
  unfold nx
  split
  · exact h
  · split
    · rename_i hc; exact ⟨h.len, h.ok, hc.1, h.m0, h.m1, h.s0, h.s1⟩
    · exact ⟨h.len, h.ok, h.at_, Int.emod_nonneg _ (by omega), Int.emod_lt_of_pos _ (by omega), h.s0, h.s1⟩
theorem nx_code {s : Src} {n : Int} : (nx s n).2.code = s.code := by unfold nx; split; rfl; split <;> rfl
theorem nx_size {s : Src} {n : Int} : (nx s n).2.size = s.size := by unfold nx; split; rfl; split <;> rfl
theorem nx_0 {s : Src} {n : Int} (h : SrcOk s) : 0 ≤ (nx s n).1 := by
  unfold nx
  split
  · exact Int.le_refl _
  · split
    · exact Int.emod_nonneg _ (by omega)
    · exact Int.emod_nonneg _ (by omega)
theorem nx_1 {s : Src} {n : Int} (h : 1 ≤ n) : (nx s n).1 < n := by
  unfold nx
  split
  · show (0 : Int) < n; omega
  · split
    · exact Int.emod_lt_of_pos _ (by omega)
    · exact Int.emod_lt_of_pos _ (by omega)
def mixf (m : Int) (cs : List Int) : Int := cs.foldl (fun m c => (m * 257 + c + 1) % 1000003) m
theorem mixf_snoc (m : Int) (cs : List Int) (c : Int) : mixf m (cs ++ [c]) = (mixf m cs * 257 + c + 1) % 1000003 := by simp [mixf]
theorem mixf_rng (m : Int) (cs : List Int) (h : 0 ≤ m ∧ m < 1000003) : 0 ≤ mixf m cs ∧ mixf m cs < 1000003 := by
  induction cs generalizing m with
  | nil => exact h
  | cons c cs ih => exact ih _ ⟨Int.emod_nonneg _ (by omega), Int.emod_lt_of_pos _ (by omega)⟩
def srcOf (xs : List Int) : Src :=
  { code := xs.take 4000, pt := 0, mix := mixf ((xs.length : Int) % 1000 + 53) (xs.take 4000), size := if 1 + ((xs.take 4000).length : Int) / 50 > 7 then 7 else 1 + ((xs.take 4000).length : Int) / 50 }
theorem srcOf_ok {xs : List Int} (ok : ok8 xs) : SrcOk (srcOf xs) := by
  have hm := mixf_rng ((xs.length : Int) % 1000 + 53) (xs.take 4000) (by omega)
  refine ⟨by simp [srcOf]; omega, ok8_take ok _, by simp [srcOf], hm.1, hm.2, ?_, ?_⟩
  · simp only [srcOf]; split <;> omega
  · simp only [srcOf]; split <;> omega
theorem l1Source {w : World} {F : List Nat} {v : Value} {xs : List Int} (hx : u8.R w F v xs) (lx : xs.length ≤ 1000000000) (ok : ok8 xs) :
    Ret Tryd.prog 52 #[v] w (fun r w' => ∃ g u, r = .pointer (some ⟨g, 0, none⟩) ∧ Hold w [] w' [rB g 141 [u, .int .i64 ((srcOf xs).pt : Int), .int .i64 (srcOf xs).mix, .int .i64 (srcOf xs).size], rR u8 5 u (srcOf xs).code]) := by
  refine enter Tryd.func52 rfl Tryd.ntmps52 (by rfl) (by rfl) ?_
  have H0 : Hold w [] w [] := Hold.start w
  refine sq (rg (r (sa rfl) (re (sq (rg (r (bd (r := [.slice none 0 0, .int .i64 0, .int .i64 0, .int .i64 0]) ti141 pl141 pn rfl) (ef (xal ti141) ?_)))))))
  rintro _ w1 ⟨g3, e1, rfl, -, b1, c1⟩
  have H1 : Hold w [] w1 [rB g3 141 ([.slice none 0 0, .int .i64 0, .int .i64 0, .int .i64 0])] := Hold.newB H0 e1 b1 c1
  clear H0
  clear e1 b1 c1
  have b2 : B w1 g3 141 ([.slice none 0 0, .int .i64 0, .int .i64 0, .int .i64 0]) := Hold.blk H1 0 rfl
  refine ef0 (xst (vs := [.slice none 0 0, .int .i64 0, .int .i64 0, .int .i64 0]) ti141 rfl rfl rfl b2 rfl (Nat.le_of_ble_eq_true rfl) (one_all rfl)) ?_
  rintro w3 ⟨-, b3, c3⟩
  have H2 : Hold w [] w3 [rB g3 141 ([.slice none 0 0, .int .i64 0, .int .i64 0, .int .i64 0])] := Hold.setB H1 0 rfl b3 c3 rfl
  clear H1
  clear b3 c3
  refine re (sq (sq (rg (r (sa rfl) (re (bl ?_))))))
  have H3 : Hold w [] w3 [rB g3 141 ([.slice none 0 0, .int .i64 0, .int .i64 0, .int .i64 0]), rR u8 5 (.slice none 0 0) ([])] := Hold.nilrow u8 5 H2
  clear H2
  have hm : (xs.take 4000).length = min 4000 xs.length := by simp
  refine lp (α := Nat × Value) (fun (k, o) ρ w' => ρ 0 = v ∧ ρ 3 = .pointer (some ⟨g3, 0, none⟩) ∧ ρ 4 = .int .i64 (k : Int) ∧ Hold w [] w' [rB g3 141 ([o, .int .i64 0, .int .i64 0, .int .i64 0]), rR u8 5 o (xs.take k)] ∧ k ≤ (xs.take 4000).length) (fun (k, o) => (xs.take 4000).length - k) (0, .slice none 0 0) ?_ ?_
  · exact ⟨rfl, rfl, rfl, (by simpa using H3), by omega⟩
  clear H3
  rintro ⟨k, o⟩ ρ w504 ⟨y0, y3, y4, H4, hk⟩
  refine sq (sq (rg (r (mv y4) (r (mv y0) (r (ln Tryd.underlying22 rfl ((hx.t (Hold.ch H4)))) (r (bi rfl rfl rfl) (r (mv rfl) ?_)))))))
  refine sp 11 rfl (fun h1 => ?_) (fun h1 => ?_)
  · refine gy rfl rfl rfl (r (mv y4) (gy rfl rfl rfl (r (bi rfl rfl rfl) (r (pk rfl rfl) (re ?_)))))
    refine cp rfl (fun h2 => ?_) (fun h2 => ?_)
    · have hk' : k < xs.length := by omega
      have hk4 : k < (xs.take 4000).length := by omega
      refine sk (sq (bl ?_))
      refine rde mixed ?_
      intro w4 c4
      have H5 : Hold w [] w4 [rB g3 141 ([o, .int .i64 0, .int .i64 0, .int .i64 0]), rR u8 5 o (xs.take k)] := Hold.t H4 c4
      clear H4
      clear c4
      have H6 : Hold w [] w4 [rR u8 5 o (xs.take k), rB g3 141 ([o, .int .i64 0, .int .i64 0, .int .i64 0])] := Hold.re H5 [1, 0] (by kernel_rfl) (by rfl)
      clear H5
      obtain ⟨Fd5, hFd5, nd5, Kd5, Xd5, sd5⟩ := Hold.frontx (Γ := [rR u8 5 o (xs.take k)]) (Δ := [rB g3 141 ([o, .int .i64 0, .int .i64 0, .int .i64 0])]) H6
      have H5d0 : Hold w4 Fd5 w4 [rR u8 5 o (xs.take k)] := Hold.begin hFd5 nd5
      refine ⟨fun w' => Ch Fd5 w4 w', Ch.refl _ _, ?_⟩
      obtain ⟨_, ⟨rfl, b6⟩, x6⟩ := Xd5 0 (rB g3 141 ([o, .int .i64 0, .int .i64 0, .int .i64 0])) rfl
      refine edt 0 rfl (by kernel_rfl) (fun w' hS => fa Tryd.underlying141 rfl ti22 rfl y3) (edt 1 rfl (by kernel_rfl) (fun w' hS => ldb Tryd.underlying22 rfl rfl (hS.b b6 (x6 _ (by simp))) rfl) (edt 2 rfl (by kernel_rfl) (fun w' hS => mv y0) (edt 3 rfl (by kernel_rfl) (fun w' hS => mv y4) ?_)))
      obtain ⟨c21_7, ad21_7, k21_7, e21_7, p21_7⟩ := Kd.R.place hx k (by omega)
      refine edt 4 rfl (by kernel_rfl) (fun w' hS => ix (j := k) Tryd.underlying22 ti5 e21_7 rfl (by omega)) (edt 5 rfl (by kernel_rfl) (fun w' hS => ld Tryd.underlying5 rfl rfl (Ch.cellN hS sd5 (Hold.ch H6) p21_7.cell)) (ed1 6 (by kernel_rfl) <| euf rfl (xbs1 (cs := [.int .u8 (xs[k])]) Tryd.underlying22 ti5 rfl rfl rfl (cel1 rfl) rfl) ?_))
      rintro _ w8 ⟨g23, e8, rfl, -, b8, c8⟩
      have H7d : Hold w4 Fd5 w8 [rR u8 5 o (xs.take k), rB g23 5 ([.int .u8 (xs[k])])] := Hold.newB H5d0 e8 b8 c8
      clear H5d0
      clear e8 b8 c8
      refine ⟨.inr (Hold.ch H7d), ?_⟩
      have b10 : B w8 g23 5 ([.int .u8 (xs[k])]) := Hold.blk H7d 1 rfl
      obtain ⟨F11, P11, n11, s11, K11⟩ := Hold.pick H7d 0 rfl
      replace P11 : Kd.W u8 5 w8 F11 o (xs.take k) := P11
      refine ed1 7 (by kernel_rfl) <| euf rfl (xapb (ys := [xs[k]]) Tryd.underlying22 ti5 rfl rfl rfl P11 b10 (els_one (R := Kd.O u8 _) (show Kd.O u8 _ [] (xs[k]) _ from ⟨rfl, rfl⟩)) (nodup_nil n11) (by simp; omega)) ?_
      rintro v24_9 w9 ⟨F9, A9⟩
      have H8d : Hold w4 Fd5 w9 [rR u8 5 v24_9 ((xs.take k) ++ [xs[k]]), rB g23 5 ([.int .u8 (xs[k])])] := Hold.apd K11 P11 A9 rfl
      clear H7d
      clear A9 K11 P11 n11 s11
      refine ⟨.inr (Hold.ch H8d), ?_⟩
      have H9 : Hold w [] w9 [rR u8 5 v24_9 ((xs.take k) ++ [xs[k]]), rB g23 5 ([.int .u8 (xs[k])]), rB g3 141 ([o, .int .i64 0, .int .i64 0, .int .i64 0])] := Hold.call Kd5 H8d
      clear H8d H6
      have b12 : B w9 g3 141 ([o, .int .i64 0, .int .i64 0, .int .i64 0]) := Hold.blk H9 2 rfl
      obtain ⟨_, R14⟩ : ∃ F, Kd.R u8 w9 F v24_9 ((xs.take k) ++ [xs[k]]) := Hold.row H9 0 rfl
      refine edt 8 rfl (by kernel_rfl) (fun w' hS => fa Tryd.underlying141 rfl ti22 rfl y3) (ed1 9 (by kernel_rfl) <| euf0 rfl (xst (vs := [v24_9]) ti22 rfl rfl (cel1 (R14).oneCell) b12 rfl (Nat.le_of_ble_eq_true rfl) (ones1 (R14).oneCell)) ?_)
      rintro w13 ⟨-, b13, c13⟩
      have H10 : Hold w [] w13 [rR u8 5 v24_9 ((xs.take k) ++ [xs[k]]), rB g23 5 ([.int .u8 (xs[k])]), rB g3 141 ([v24_9, .int .i64 0, .int .i64 0, .int .i64 0])] := Hold.setB H9 2 rfl b13 c13 rfl
      clear H9
      clear b13 c13
      refine ⟨.inl (by kernel_rfl), ?_⟩
      refine edd (by kernel_rfl) ?_
      refine be ?_
      refine gen (fun ρ => ρ 0 = v ∧ ρ 3 = .pointer (some ⟨g3, 0, none⟩) ∧ ρ 4 = .int .i64 (k : Int) ∧ True) ⟨y0, y3, y4, trivial⟩ ?_
      rintro ρ ⟨z0, z3, z4, -⟩
      refine rg (r (mv z4) (r (ad (a := (k : Int)) (b := 1) ((k : Int) + 1) rfl rfl (by omega)) (r (sa rfl) (re ?_))))
      have H11 : Hold w [] w13 [rB g3 141 ([v24_9, .int .i64 0, .int .i64 0, .int .i64 0]), rR u8 5 v24_9 ((xs.take k) ++ [xs[k]])] := (show Hold w [] w13 ([rB g3 141 ([v24_9, .int .i64 0, .int .i64 0, .int .i64 0]), rR u8 5 v24_9 ((xs.take k) ++ [xs[k]])] ++ [rB g23 5 ([.int .u8 (xs[k])])]) from Hold.re H10 [2, 0, 1] (by kernel_rfl) (by rfl)).drop
      clear H10
      exact ag (k + 1, v24_9) ⟨z0, z3, rfl, (by rw [List.take_succ_eq_append_getElem hk']; exact H11), by omega⟩ (by first | omega | (dsimp only; omega))
    · refine ex rfl (sq (rg (r (mv y0) (r (ln Tryd.underlying22 rfl ((hx.t (Hold.ch H4)))) ?_))))
      obtain rfl : k = (xs.take 4000).length := by omega
      have e4 : xs.take (xs.take 4000).length = xs.take 4000 := by rw [hm, ← List.take_take, List.take_length]
      have H5 : Hold w [] w504 [rB g3 141 ([o, .int .i64 0, .int .i64 0, .int .i64 0]), rR u8 5 o (xs.take 4000)] := (by rw [e4] at H4; exact H4)
      clear H4
      have b4 : B w504 g3 141 ([o, .int .i64 0, .int .i64 0, .int .i64 0]) := Hold.blk H5 0 rfl
      refine r (rm (a := (xs.length : Int)) (b := 1000) ((xs.length : Int) % 1000) rfl rfl ⟨by omega, by rw [Int.tmod_eq_emod_of_nonneg (by omega)]⟩) (r (ad (a := (xs.length : Int) % 1000) (b := 53) (((xs.length : Int) % 1000) + 53) rfl rfl (by omega)) (r (fa Tryd.underlying141 rfl ti2 rfl y3) (ef0 (xst (vs := [.int .i64 (((xs.length : Int) % 1000) + 53)]) ti2 rfl rfl (cel1 rfl) b4 rfl (Nat.le_of_ble_eq_true rfl) (one_all rfl)) ?_)))
      rintro w5 ⟨-, b5, c5⟩
      have H6 : Hold w [] w5 [rB g3 141 ([o, .int .i64 0, .int .i64 (((xs.length : Int) % 1000) + 53), .int .i64 0]), rR u8 5 o (xs.take 4000)] := Hold.setB H5 0 rfl b5 c5 rfl
      clear H5
      clear b5 c5
      refine re (sq (sq ?_))
      refine gen (fun ρ => ρ 3 = .pointer (some ⟨g3, 0, none⟩) ∧ True) ⟨y3, trivial⟩ ?_
      rintro ρ ⟨z3, -⟩
      refine rg (r (sa rfl) (re (bl ?_)))
      refine lp (α := Nat) (fun j ρ w' => ρ 3 = .pointer (some ⟨g3, 0, none⟩) ∧ ρ 5 = .int .i64 (j : Int) ∧ Hold w [] w' [rB g3 141 ([o, .int .i64 0, .int .i64 (mixf ((xs.length : Int) % 1000 + 53) ((xs.take 4000).take j)), .int .i64 0]), rR u8 5 o (xs.take 4000)] ∧ j ≤ (xs.take 4000).length) (fun j => (xs.take 4000).length - j) 0 ?_ ?_
      · exact ⟨z3, rfl, (by simpa [mixf] using H6), by omega⟩
      clear H6
      rintro j ρ w507 ⟨y3, y5, H7, hj⟩
      have b6 : B w507 g3 141 ([o, .int .i64 0, .int .i64 (mixf ((xs.length : Int) % 1000 + 53) ((xs.take 4000).take j)), .int .i64 0]) := Hold.blk H7 0 rfl
      obtain ⟨_, R7⟩ : ∃ F, Kd.R u8 w507 F o (xs.take 4000) := Hold.row H7 1 rfl
      refine sq (sq (rg (r (mv y5) (r (fa Tryd.underlying141 rfl ti22 rfl y3) (r (ldb Tryd.underlying22 rfl rfl b6 rfl) (r (ln Tryd.underlying22 rfl (R7)) (r (bi rfl rfl rfl) (re ?_))))))))
      refine cp rfl (fun hlt => ?_) (fun hlt => ?_)
      · have hj' : j < (xs.take 4000).length := by omega
        have hmr := mixf_rng ((xs.length : Int) % 1000 + 53) ((xs.take 4000).take j) (by omega)
        have hb := ok8_take ok 4000 _ (List.getElem_mem hj')
        refine sk (sq (bl ?_))
        refine rde mixed ?_
        intro w8 c8
        have H8 : Hold w [] w8 [rB g3 141 ([o, .int .i64 0, .int .i64 (mixf ((xs.length : Int) % 1000 + 53) ((xs.take 4000).take j)), .int .i64 0]), rR u8 5 o (xs.take 4000)] := Hold.t H7 c8
        clear H7
        clear c8
        have H9d0 : Hold w8 [] w8 [] := Hold.start w8
        refine ⟨fun w' => Ch [] w8 w', Ch.refl _ _, ?_⟩
        have b10 : B w8 g3 141 ([o, .int .i64 0, .int .i64 (mixf ((xs.length : Int) % 1000 + 53) ((xs.take 4000).take j)), .int .i64 0]) := Hold.blk H8 0 rfl
        obtain ⟨_, R11⟩ : ∃ F, Kd.R u8 w8 F o (xs.take 4000) := Hold.row H8 1 rfl
        refine edt 0 rfl (by kernel_rfl) (fun w' hS => fa Tryd.underlying141 rfl ti2 rfl y3) (edt 1 rfl (by kernel_rfl) (fun w' hS => ldb Tryd.underlying2 rfl rfl (hS.b0 b10) rfl) (edt 2 rfl (by kernel_rfl) (fun w' hS => ml (a := mixf ((xs.length : Int) % 1000 + 53) ((xs.take 4000).take j)) (b := 257) ((mixf ((xs.length : Int) % 1000 + 53) ((xs.take 4000).take j)) * 257) rfl rfl (by omega)) (edt 3 rfl (by kernel_rfl) (fun w' hS => fa Tryd.underlying141 rfl ti22 rfl y3) (edt 4 rfl (by kernel_rfl) (fun w' hS => ldb Tryd.underlying22 rfl rfl (hS.b0 b10) rfl) (edt 5 rfl (by kernel_rfl) (fun w' hS => mv y5) ?_)))))
        obtain ⟨c44_12, ad44_12, k44_12, e44_12, p44_12⟩ := Kd.R.place R11 j (by omega)
        have H9 : Hold w [] w8 [rB g3 141 ([o, .int .i64 0, .int .i64 (mixf ((xs.length : Int) % 1000 + 53) ((xs.take 4000).take j)), .int .i64 0]), rR u8 5 o (xs.take 4000)] := Hold.news H8 H9d0
        clear H9d0 H8
        have b13 : B w8 g3 141 ([o, .int .i64 0, .int .i64 (mixf ((xs.length : Int) % 1000 + 53) ((xs.take 4000).take j)), .int .i64 0]) := Hold.blk H9 0 rfl
        refine edt 6 rfl (by kernel_rfl) (fun w' hS => ix (j := j) Tryd.underlying22 ti5 e44_12 rfl (by omega)) (edt 7 rfl (by kernel_rfl) (fun w' hS => ld Tryd.underlying5 rfl rfl (Ch.cell hS p44_12.cell)) (edt 8 rfl (by kernel_rfl) (fun w' hS => cv ((xs.take 4000)[j]) Tryd.underlying5 Tryd.underlying2 rfl (IntWalk.i64_in _ (by omega))) (edt 9 rfl (by kernel_rfl) (fun w' hS => ad (a := (mixf ((xs.length : Int) % 1000 + 53) ((xs.take 4000).take j)) * 257) (b := (xs.take 4000)[j]) (((mixf ((xs.length : Int) % 1000 + 53) ((xs.take 4000).take j)) * 257) + ((xs.take 4000)[j])) rfl rfl (by omega)) (edt 10 rfl (by kernel_rfl) (fun w' hS => ad (a := ((mixf ((xs.length : Int) % 1000 + 53) ((xs.take 4000).take j)) * 257) + ((xs.take 4000)[j])) (b := 1) ((((mixf ((xs.length : Int) % 1000 + 53) ((xs.take 4000).take j)) * 257) + ((xs.take 4000)[j])) + 1) rfl rfl (by omega)) (edt 11 rfl (by kernel_rfl) (fun w' hS => rm (a := (((mixf ((xs.length : Int) % 1000 + 53) ((xs.take 4000).take j)) * 257) + ((xs.take 4000)[j])) + 1) (b := 1000003) (mixf ((xs.length : Int) % 1000 + 53) ((xs.take 4000).take (j + 1))) rfl rfl ⟨by omega, by rw [List.take_succ_eq_append_getElem hj', mixf_snoc, Int.tmod_eq_emod_of_nonneg (by omega)]⟩) (edt 12 rfl (by kernel_rfl) (fun w' hS => fa Tryd.underlying141 rfl ti2 rfl y3) (ed1 13 (by kernel_rfl) <| euf0 rfl (xst (vs := [.int .i64 (mixf ((xs.length : Int) % 1000 + 53) ((xs.take 4000).take (j + 1)))]) ti2 rfl rfl (cel1 rfl) b13 rfl (Nat.le_of_ble_eq_true rfl) (one_all rfl)) ?_)))))))
        rintro w14 ⟨-, b14, c14⟩
        have H10 : Hold w [] w14 [rB g3 141 ([o, .int .i64 0, .int .i64 (mixf ((xs.length : Int) % 1000 + 53) ((xs.take 4000).take (j + 1))), .int .i64 0]), rR u8 5 o (xs.take 4000)] := Hold.setB H9 0 rfl b14 c14 rfl
        clear H9
        clear b14 c14
        refine ⟨.inl (by kernel_rfl), ?_⟩
        refine edd (by kernel_rfl) ?_
        refine be ?_
        refine gen (fun ρ => ρ 3 = .pointer (some ⟨g3, 0, none⟩) ∧ ρ 5 = .int .i64 (j : Int) ∧ True) ⟨y3, y5, trivial⟩ ?_
        rintro ρ ⟨z3, z5, -⟩
        refine rg (r (mv z5) (r (ad (a := (j : Int)) (b := 1) ((j : Int) + 1) rfl rfl (by omega)) (r (sa rfl) (re ?_))))
        exact ag (j + 1) ⟨z3, rfl, H10, by omega⟩ (by first | omega | (dsimp only; omega))
      · obtain rfl : j = (xs.take 4000).length := by omega
        have H8 : Hold w [] w507 [rB g3 141 ([o, .int .i64 0, .int .i64 ((srcOf xs).mix), .int .i64 0]), rR u8 5 o (xs.take 4000)] := (by rw [List.take_length] at H7; exact H7)
        clear H7
        have b8 : B w507 g3 141 ([o, .int .i64 0, .int .i64 ((srcOf xs).mix), .int .i64 0]) := Hold.blk H8 0 rfl
        obtain ⟨_, R9⟩ : ∃ F, Kd.R u8 w507 F o (xs.take 4000) := Hold.row H8 1 rfl
        refine ex rfl (sq (rg (r (fa Tryd.underlying141 rfl ti22 rfl y3) (r (ldb Tryd.underlying22 rfl rfl b8 rfl) (r (ln Tryd.underlying22 rfl (R9)) (r (dv (a := ((xs.take 4000).length : Int)) (b := 50) (((xs.take 4000).length : Int) / 50) rfl rfl ⟨by omega, by rw [Int.tdiv_eq_ediv_of_nonneg (by omega)], by omega, by omega⟩) (r (ad (a := 1) (b := ((xs.take 4000).length : Int) / 50) (1 + (((xs.take 4000).length : Int) / 50)) rfl rfl (by omega)) (r (fa Tryd.underlying141 rfl ti2 rfl y3) (ef0 (xst (vs := [.int .i64 (1 + (((xs.take 4000).length : Int) / 50))]) ti2 rfl rfl (cel1 rfl) b8 rfl (Nat.le_of_ble_eq_true rfl) (one_all rfl)) ?_)))))))))
        rintro w10 ⟨-, b10, c10⟩
        have H9 : Hold w [] w10 [rB g3 141 ([o, .int .i64 0, .int .i64 ((srcOf xs).mix), .int .i64 (1 + (((xs.take 4000).length : Int) / 50))]), rR u8 5 o (xs.take 4000)] := Hold.setB H8 0 rfl b10 c10 rfl
        clear H8
        clear b10 c10
        refine re (sq (sq ?_))
        refine gen (fun ρ => ρ 3 = .pointer (some ⟨g3, 0, none⟩) ∧ True) ⟨y3, trivial⟩ ?_
        rintro ρ ⟨z3, -⟩
        have b11 : B w10 g3 141 ([o, .int .i64 0, .int .i64 ((srcOf xs).mix), .int .i64 (1 + (((xs.take 4000).length : Int) / 50))]) := Hold.blk H9 0 rfl
        refine rg (r (fa Tryd.underlying141 rfl ti2 rfl z3) (r (ldb Tryd.underlying2 rfl rfl b11 rfl) (r (bi rfl rfl rfl) (re ?_))))
        refine cp rfl (fun h7 => ?_) (fun h7 => ?_)
        · refine rg (r (fa Tryd.underlying141 rfl ti2 rfl z3) (ef0 (xst (vs := [.int .i64 7]) ti2 rfl rfl (cel1 rfl) b11 rfl (Nat.le_of_ble_eq_true rfl) (one_all rfl)) ?_))
          rintro w12 ⟨-, b12, c12⟩
          have H10 : Hold w [] w12 [rB g3 141 ([o, .int .i64 0, .int .i64 ((srcOf xs).mix), .int .i64 7]), rR u8 5 o (xs.take 4000)] := Hold.setB H9 0 rfl b12 c12 rfl
          clear H9
          clear b12 c12
          refine re (sq (rg (r (sa z3) (re (rt ?_)))))
          have hz : (srcOf xs).size = 7 := by
            simp only [srcOf]
            rw [if_pos (by omega)]
          exact fin1 (v := .pointer (some ⟨g3, 0, none⟩)) Tryd.results52 rfl ⟨g3, o, rfl, (by rw [hz]; exact H10)⟩
        · refine sk (sq (rg (r (sa z3) (re (rt ?_)))))
          have hz : (srcOf xs).size = 1 + ((xs.take 4000).length : Int) / 50 := by
            simp only [srcOf]
            rw [if_neg (by omega)]
          exact fin1 (v := .pointer (some ⟨g3, 0, none⟩)) Tryd.results52 rfl ⟨g3, o, rfl, (by rw [hz]; exact H9)⟩
  · refine gn rfl rfl rfl (gn rfl rfl rfl (r (pk rfl rfl) (re (cf rfl (ex rfl (sq (rg (r (mv y0) (r (ln Tryd.underlying22 rfl ((hx.t (Hold.ch H4)))) ?_)))))))))
    obtain rfl : k = (xs.take 4000).length := by omega
    have e4 : xs.take (xs.take 4000).length = xs.take 4000 := by rw [hm, ← List.take_take, List.take_length]
    have H5 : Hold w [] w504 [rB g3 141 ([o, .int .i64 0, .int .i64 0, .int .i64 0]), rR u8 5 o (xs.take 4000)] := (by rw [e4] at H4; exact H4)
    clear H4
    have b4 : B w504 g3 141 ([o, .int .i64 0, .int .i64 0, .int .i64 0]) := Hold.blk H5 0 rfl
    refine r (rm (a := (xs.length : Int)) (b := 1000) ((xs.length : Int) % 1000) rfl rfl ⟨by omega, by rw [Int.tmod_eq_emod_of_nonneg (by omega)]⟩) (r (ad (a := (xs.length : Int) % 1000) (b := 53) (((xs.length : Int) % 1000) + 53) rfl rfl (by omega)) (r (fa Tryd.underlying141 rfl ti2 rfl y3) (ef0 (xst (vs := [.int .i64 (((xs.length : Int) % 1000) + 53)]) ti2 rfl rfl (cel1 rfl) b4 rfl (Nat.le_of_ble_eq_true rfl) (one_all rfl)) ?_)))
    rintro w5 ⟨-, b5, c5⟩
    have H6 : Hold w [] w5 [rB g3 141 ([o, .int .i64 0, .int .i64 (((xs.length : Int) % 1000) + 53), .int .i64 0]), rR u8 5 o (xs.take 4000)] := Hold.setB H5 0 rfl b5 c5 rfl
    clear H5
    clear b5 c5
    refine re (sq (sq ?_))
    refine gen (fun ρ => ρ 3 = .pointer (some ⟨g3, 0, none⟩) ∧ True) ⟨y3, trivial⟩ ?_
    rintro ρ ⟨z3, -⟩
    refine rg (r (sa rfl) (re (bl ?_)))
    refine lp (α := Nat) (fun j ρ w' => ρ 3 = .pointer (some ⟨g3, 0, none⟩) ∧ ρ 5 = .int .i64 (j : Int) ∧ Hold w [] w' [rB g3 141 ([o, .int .i64 0, .int .i64 (mixf ((xs.length : Int) % 1000 + 53) ((xs.take 4000).take j)), .int .i64 0]), rR u8 5 o (xs.take 4000)] ∧ j ≤ (xs.take 4000).length) (fun j => (xs.take 4000).length - j) 0 ?_ ?_
    · exact ⟨z3, rfl, (by simpa [mixf] using H6), by omega⟩
    clear H6
    rintro j ρ w507 ⟨y3, y5, H7, hj⟩
    have b6 : B w507 g3 141 ([o, .int .i64 0, .int .i64 (mixf ((xs.length : Int) % 1000 + 53) ((xs.take 4000).take j)), .int .i64 0]) := Hold.blk H7 0 rfl
    obtain ⟨_, R7⟩ : ∃ F, Kd.R u8 w507 F o (xs.take 4000) := Hold.row H7 1 rfl
    refine sq (sq (rg (r (mv y5) (r (fa Tryd.underlying141 rfl ti22 rfl y3) (r (ldb Tryd.underlying22 rfl rfl b6 rfl) (r (ln Tryd.underlying22 rfl (R7)) (r (bi rfl rfl rfl) (re ?_))))))))
    refine cp rfl (fun hlt => ?_) (fun hlt => ?_)
    · have hj' : j < (xs.take 4000).length := by omega
      have hmr := mixf_rng ((xs.length : Int) % 1000 + 53) ((xs.take 4000).take j) (by omega)
      have hb := ok8_take ok 4000 _ (List.getElem_mem hj')
      refine sk (sq (bl ?_))
      refine rde mixed ?_
      intro w8 c8
      have H8 : Hold w [] w8 [rB g3 141 ([o, .int .i64 0, .int .i64 (mixf ((xs.length : Int) % 1000 + 53) ((xs.take 4000).take j)), .int .i64 0]), rR u8 5 o (xs.take 4000)] := Hold.t H7 c8
      clear H7
      clear c8
      have H9d0 : Hold w8 [] w8 [] := Hold.start w8
      refine ⟨fun w' => Ch [] w8 w', Ch.refl _ _, ?_⟩
      have b10 : B w8 g3 141 ([o, .int .i64 0, .int .i64 (mixf ((xs.length : Int) % 1000 + 53) ((xs.take 4000).take j)), .int .i64 0]) := Hold.blk H8 0 rfl
      obtain ⟨_, R11⟩ : ∃ F, Kd.R u8 w8 F o (xs.take 4000) := Hold.row H8 1 rfl
      refine edt 0 rfl (by kernel_rfl) (fun w' hS => fa Tryd.underlying141 rfl ti2 rfl y3) (edt 1 rfl (by kernel_rfl) (fun w' hS => ldb Tryd.underlying2 rfl rfl (hS.b0 b10) rfl) (edt 2 rfl (by kernel_rfl) (fun w' hS => ml (a := mixf ((xs.length : Int) % 1000 + 53) ((xs.take 4000).take j)) (b := 257) ((mixf ((xs.length : Int) % 1000 + 53) ((xs.take 4000).take j)) * 257) rfl rfl (by omega)) (edt 3 rfl (by kernel_rfl) (fun w' hS => fa Tryd.underlying141 rfl ti22 rfl y3) (edt 4 rfl (by kernel_rfl) (fun w' hS => ldb Tryd.underlying22 rfl rfl (hS.b0 b10) rfl) (edt 5 rfl (by kernel_rfl) (fun w' hS => mv y5) ?_)))))
      obtain ⟨c44_12, ad44_12, k44_12, e44_12, p44_12⟩ := Kd.R.place R11 j (by omega)
      have H9 : Hold w [] w8 [rB g3 141 ([o, .int .i64 0, .int .i64 (mixf ((xs.length : Int) % 1000 + 53) ((xs.take 4000).take j)), .int .i64 0]), rR u8 5 o (xs.take 4000)] := Hold.news H8 H9d0
      clear H9d0 H8
      have b13 : B w8 g3 141 ([o, .int .i64 0, .int .i64 (mixf ((xs.length : Int) % 1000 + 53) ((xs.take 4000).take j)), .int .i64 0]) := Hold.blk H9 0 rfl
      refine edt 6 rfl (by kernel_rfl) (fun w' hS => ix (j := j) Tryd.underlying22 ti5 e44_12 rfl (by omega)) (edt 7 rfl (by kernel_rfl) (fun w' hS => ld Tryd.underlying5 rfl rfl (Ch.cell hS p44_12.cell)) (edt 8 rfl (by kernel_rfl) (fun w' hS => cv ((xs.take 4000)[j]) Tryd.underlying5 Tryd.underlying2 rfl (IntWalk.i64_in _ (by omega))) (edt 9 rfl (by kernel_rfl) (fun w' hS => ad (a := (mixf ((xs.length : Int) % 1000 + 53) ((xs.take 4000).take j)) * 257) (b := (xs.take 4000)[j]) (((mixf ((xs.length : Int) % 1000 + 53) ((xs.take 4000).take j)) * 257) + ((xs.take 4000)[j])) rfl rfl (by omega)) (edt 10 rfl (by kernel_rfl) (fun w' hS => ad (a := ((mixf ((xs.length : Int) % 1000 + 53) ((xs.take 4000).take j)) * 257) + ((xs.take 4000)[j])) (b := 1) ((((mixf ((xs.length : Int) % 1000 + 53) ((xs.take 4000).take j)) * 257) + ((xs.take 4000)[j])) + 1) rfl rfl (by omega)) (edt 11 rfl (by kernel_rfl) (fun w' hS => rm (a := (((mixf ((xs.length : Int) % 1000 + 53) ((xs.take 4000).take j)) * 257) + ((xs.take 4000)[j])) + 1) (b := 1000003) (mixf ((xs.length : Int) % 1000 + 53) ((xs.take 4000).take (j + 1))) rfl rfl ⟨by omega, by rw [List.take_succ_eq_append_getElem hj', mixf_snoc, Int.tmod_eq_emod_of_nonneg (by omega)]⟩) (edt 12 rfl (by kernel_rfl) (fun w' hS => fa Tryd.underlying141 rfl ti2 rfl y3) (ed1 13 (by kernel_rfl) <| euf0 rfl (xst (vs := [.int .i64 (mixf ((xs.length : Int) % 1000 + 53) ((xs.take 4000).take (j + 1)))]) ti2 rfl rfl (cel1 rfl) b13 rfl (Nat.le_of_ble_eq_true rfl) (one_all rfl)) ?_)))))))
      rintro w14 ⟨-, b14, c14⟩
      have H10 : Hold w [] w14 [rB g3 141 ([o, .int .i64 0, .int .i64 (mixf ((xs.length : Int) % 1000 + 53) ((xs.take 4000).take (j + 1))), .int .i64 0]), rR u8 5 o (xs.take 4000)] := Hold.setB H9 0 rfl b14 c14 rfl
      clear H9
      clear b14 c14
      refine ⟨.inl (by kernel_rfl), ?_⟩
      refine edd (by kernel_rfl) ?_
      refine be ?_
      refine gen (fun ρ => ρ 3 = .pointer (some ⟨g3, 0, none⟩) ∧ ρ 5 = .int .i64 (j : Int) ∧ True) ⟨y3, y5, trivial⟩ ?_
      rintro ρ ⟨z3, z5, -⟩
      refine rg (r (mv z5) (r (ad (a := (j : Int)) (b := 1) ((j : Int) + 1) rfl rfl (by omega)) (r (sa rfl) (re ?_))))
      exact ag (j + 1) ⟨z3, rfl, H10, by omega⟩ (by first | omega | (dsimp only; omega))
    · obtain rfl : j = (xs.take 4000).length := by omega
      have H8 : Hold w [] w507 [rB g3 141 ([o, .int .i64 0, .int .i64 ((srcOf xs).mix), .int .i64 0]), rR u8 5 o (xs.take 4000)] := (by rw [List.take_length] at H7; exact H7)
      clear H7
      have b8 : B w507 g3 141 ([o, .int .i64 0, .int .i64 ((srcOf xs).mix), .int .i64 0]) := Hold.blk H8 0 rfl
      obtain ⟨_, R9⟩ : ∃ F, Kd.R u8 w507 F o (xs.take 4000) := Hold.row H8 1 rfl
      refine ex rfl (sq (rg (r (fa Tryd.underlying141 rfl ti22 rfl y3) (r (ldb Tryd.underlying22 rfl rfl b8 rfl) (r (ln Tryd.underlying22 rfl (R9)) (r (dv (a := ((xs.take 4000).length : Int)) (b := 50) (((xs.take 4000).length : Int) / 50) rfl rfl ⟨by omega, by rw [Int.tdiv_eq_ediv_of_nonneg (by omega)], by omega, by omega⟩) (r (ad (a := 1) (b := ((xs.take 4000).length : Int) / 50) (1 + (((xs.take 4000).length : Int) / 50)) rfl rfl (by omega)) (r (fa Tryd.underlying141 rfl ti2 rfl y3) (ef0 (xst (vs := [.int .i64 (1 + (((xs.take 4000).length : Int) / 50))]) ti2 rfl rfl (cel1 rfl) b8 rfl (Nat.le_of_ble_eq_true rfl) (one_all rfl)) ?_)))))))))
      rintro w10 ⟨-, b10, c10⟩
      have H9 : Hold w [] w10 [rB g3 141 ([o, .int .i64 0, .int .i64 ((srcOf xs).mix), .int .i64 (1 + (((xs.take 4000).length : Int) / 50))]), rR u8 5 o (xs.take 4000)] := Hold.setB H8 0 rfl b10 c10 rfl
      clear H8
      clear b10 c10
      refine re (sq (sq ?_))
      refine gen (fun ρ => ρ 3 = .pointer (some ⟨g3, 0, none⟩) ∧ True) ⟨y3, trivial⟩ ?_
      rintro ρ ⟨z3, -⟩
      have b11 : B w10 g3 141 ([o, .int .i64 0, .int .i64 ((srcOf xs).mix), .int .i64 (1 + (((xs.take 4000).length : Int) / 50))]) := Hold.blk H9 0 rfl
      refine rg (r (fa Tryd.underlying141 rfl ti2 rfl z3) (r (ldb Tryd.underlying2 rfl rfl b11 rfl) (r (bi rfl rfl rfl) (re ?_))))
      refine cp rfl (fun h7 => ?_) (fun h7 => ?_)
      · refine rg (r (fa Tryd.underlying141 rfl ti2 rfl z3) (ef0 (xst (vs := [.int .i64 7]) ti2 rfl rfl (cel1 rfl) b11 rfl (Nat.le_of_ble_eq_true rfl) (one_all rfl)) ?_))
        rintro w12 ⟨-, b12, c12⟩
        have H10 : Hold w [] w12 [rB g3 141 ([o, .int .i64 0, .int .i64 ((srcOf xs).mix), .int .i64 7]), rR u8 5 o (xs.take 4000)] := Hold.setB H9 0 rfl b12 c12 rfl
        clear H9
        clear b12 c12
        refine re (sq (rg (r (sa z3) (re (rt ?_)))))
        have hz : (srcOf xs).size = 7 := by
          simp only [srcOf]
          rw [if_pos (by omega)]
        exact fin1 (v := .pointer (some ⟨g3, 0, none⟩)) Tryd.results52 rfl ⟨g3, o, rfl, (by rw [hz]; exact H10)⟩
      · refine sk (sq (rg (r (sa z3) (re (rt ?_)))))
        have hz : (srcOf xs).size = 1 + ((xs.take 4000).length : Int) / 50 := by
          simp only [srcOf]
          rw [if_neg (by omega)]
        exact fin1 (v := .pointer (some ⟨g3, 0, none⟩)) Tryd.results52 rfl ⟨g3, o, rfl, (by rw [hz]; exact H9)⟩
theorem l1Next {w : World} {F : List Nat} {g : Nat} {v : Value} {s : Src} {m : Int} (h : Hs w [rB g 141 [v, .int .i64 (s.pt : Int), .int .i64 s.mix, .int .i64 s.size], rR u8 5 v s.code] F) (nd : F.Nodup) (ok : SrcOk s) (hm : m ≤ 1000000000000) :
    Ret Tryd.prog 91 #[.pointer (some ⟨g, 0, none⟩), .int .i64 m] w (fun r w' => r = .int .i64 (nx s m).1 ∧ Hold w F w' [rB g 141 [v, .int .i64 ((nx s m).2.pt : Int), .int .i64 (nx s m).2.mix, .int .i64 (nx s m).2.size], rR u8 5 v (nx s m).2.code]) := by
  refine enter Tryd.func91 rfl Tryd.ntmps91 (by rfl) (by rfl) ?_
  have H0 : Hold w F w [rB g 141 ([v, .int .i64 (s.pt : Int), .int .i64 s.mix, .int .i64 s.size]), rR u8 5 v s.code] := Hold.begin h nd
  obtain ⟨k1, k2, k3, k4, k5, k6, k7⟩ := ok
  refine sq (rg (r (sa rfl) (re (sq (sq (rg (r (mv rfl) (r (bi rfl rfl rfl) (re ?_)))))))))
  refine cp rfl (fun h1 => ?_) (fun h1 => ?_)
  · rw [show nx s m = (0, s) by unfold nx; rw [if_pos (by omega)]]
    refine sq (rg (r (sa rfl) (re (rt ?_))))
    exact fin1 (v := .int .i64 0) Tryd.results91 rfl ⟨rfl, H0⟩
  · have b1 : B w g 141 ([v, .int .i64 (s.pt : Int), .int .i64 s.mix, .int .i64 s.size]) := Hold.blk H0 0 rfl
    obtain ⟨_, R2⟩ : ∃ F, Kd.R u8 w F v s.code := Hold.row H0 1 rfl
    refine sk (sq (sq (rd mixed (by kernel_rfl) (q (mv rfl) (q (nck rfl) (q (fa Tryd.underlying141 rfl ti3 rfl rfl) (q (ldb Tryd.underlying3 rfl rfl b1 rfl) (q (mv rfl) (q (nck rfl) (q (fa Tryd.underlying141 rfl ti22 rfl rfl) (q (ldb Tryd.underlying22 rfl rfl b1 rfl) (q (ln Tryd.underlying22 rfl (R2)) (q (bi rfl rfl rfl) (q (mv rfl) ?_))))))))))))))
    refine spq 18 rfl (fun h2 => ?_) (fun h2 => ?_)
    · refine gyq rfl rfl rfl (q (mv rfl) (gyq rfl rfl rfl (q (bi rfl rfl rfl) (q (pk rfl rfl) (me ?_)))))
      intro w1 c1
      have H1 : Hold w F w1 [rB g 141 ([v, .int .i64 (s.pt : Int), .int .i64 s.mix, .int .i64 s.size]), rR u8 5 v s.code] := Hold.t H0 c1
      clear H0
      refine cp rfl (fun h3 => ?_) (fun h3 => ?_)
      · have h2' : s.pt < s.code.length := by omega
        have hb := k2 _ (List.getElem_mem h2')
        rw [show nx s m = (s.code[s.pt] % m, { s with pt := s.pt + 1 }) by unfold nx; rw [if_neg (by omega), dif_pos ⟨h2', h3⟩]]
        refine sq ?_
        refine gen (fun ρ => ρ 0 = .pointer (some ⟨g, 0, none⟩) ∧ ρ 1 = .int .i64 m ∧ ρ 4 = .int .i64 0 ∧ True) ⟨rfl, rfl, rfl, trivial⟩ ?_
        rintro ρ ⟨z0, z1, z4, -⟩
        have b3 : B w1 g 141 ([v, .int .i64 (s.pt : Int), .int .i64 s.mix, .int .i64 s.size]) := Hold.blk H1 0 rfl
        obtain ⟨_, R4⟩ : ∃ F, Kd.R u8 w1 F v s.code := Hold.row H1 1 rfl
        refine rd mixed (by kernel_rfl) (q (mv z0) (q (nck rfl) (q (fa Tryd.underlying141 rfl ti22 rfl rfl) (q (ldb Tryd.underlying22 rfl rfl b3 rfl) (q (mv z0) (q (nck rfl) (q (fa Tryd.underlying141 rfl ti3 rfl rfl) (q (ldb Tryd.underlying3 rfl rfl b3 rfl) ?_))))))))
        obtain ⟨c30_5, ad30_5, k30_5, e30_5, p30_5⟩ := Kd.R.place R4 s.pt ((by omega))
        refine q (ix (j := s.pt) Tryd.underlying22 ti5 e30_5 rfl ((by omega))) (q (ld Tryd.underlying5 rfl rfl p30_5.cell) (q (cv (s.code[s.pt]) Tryd.underlying5 Tryd.underlying2 rfl (IntWalk.i64_in _ (by omega))) (q (sa rfl) (me ?_))))
        intro w1 c1
        have H2 : Hold w F w1 [rB g 141 ([v, .int .i64 (s.pt : Int), .int .i64 s.mix, .int .i64 s.size]), rR u8 5 v s.code] := Hold.t H1 c1
        clear H1
        refine sq ?_
        refine gen (fun ρ => ρ 0 = .pointer (some ⟨g, 0, none⟩) ∧ ρ 1 = .int .i64 m ∧ ρ 4 = .int .i64 0 ∧ ρ 5 = .int .i64 (s.code[s.pt]) ∧ True) ⟨z0, z1, z4, rfl, trivial⟩ ?_
        rintro ρ ⟨z0, z1, z4, z5, -⟩
        have b6 : B w1 g 141 ([v, .int .i64 (s.pt : Int), .int .i64 s.mix, .int .i64 s.size]) := Hold.blk H2 0 rfl
        refine rg (r (mv z0) (r (nck rfl) (r (fa Tryd.underlying141 rfl ti3 rfl rfl) (r (ldb Tryd.underlying3 rfl rfl b6 rfl) (r (ad (a := (s.pt : Int)) (b := 1) ((s.pt : Int) + 1) rfl rfl (by omega)) (r (nck rfl) (r (fa Tryd.underlying141 rfl ti3 rfl rfl) (ef0 (xst (vs := [.int .i64 ((s.pt : Int) + 1)]) ti3 rfl rfl (cel1 rfl) b6 rfl (Nat.le_of_ble_eq_true rfl) (one_all rfl)) ?_))))))))
        rintro w7 ⟨-, b7, c7⟩
        have H3 : Hold w F w7 [rB g 141 ([v, .int .i64 ((s.pt : Int) + 1), .int .i64 s.mix, .int .i64 s.size]), rR u8 5 v s.code] := Hold.setB H2 0 rfl b7 c7 rfl
        clear H2
        clear b7 c7
        refine re (sq (rg (r (mv z5) (r (mv z1) (r (rm (a := s.code[s.pt]) (b := m) (s.code[s.pt] % m) rfl rfl ⟨by omega, by rw [Int.tmod_eq_emod_of_nonneg (by omega)]⟩) (r (sa rfl) (re (rt ?_))))))))
        exact fin1 (v := .int .i64 (s.code[s.pt] % m)) Tryd.results91 rfl ⟨rfl, H3⟩
      · rw [show nx s m = ((s.mix * 1103 + 12347) % 1000003 / 3 % m, { s with mix := (s.mix * 1103 + 12347) % 1000003 }) by unfold nx; rw [if_neg (by omega), dif_neg (by omega)]]
        refine sk (sq ?_)
        refine gen (fun ρ => ρ 0 = .pointer (some ⟨g, 0, none⟩) ∧ ρ 1 = .int .i64 m ∧ ρ 4 = .int .i64 0 ∧ True) ⟨rfl, rfl, rfl, trivial⟩ ?_
        rintro ρ ⟨z0, z1, z4, -⟩
        have b3 : B w1 g 141 ([v, .int .i64 (s.pt : Int), .int .i64 s.mix, .int .i64 s.size]) := Hold.blk H1 0 rfl
        refine rg (r (mv z0) (r (mv z0) (r (nck rfl) (r (fa Tryd.underlying141 rfl ti2 rfl rfl) (r (ldb Tryd.underlying2 rfl rfl b3 rfl) (r (ml (a := s.mix) (b := 1103) (s.mix * 1103) rfl rfl (by omega)) (r (ad (a := s.mix * 1103) (b := 12347) ((s.mix * 1103) + 12347) rfl rfl (by omega)) (r (rm (a := (s.mix * 1103) + 12347) (b := 1000003) ((s.mix * 1103 + 12347) % 1000003) rfl rfl ⟨by omega, by rw [Int.tmod_eq_emod_of_nonneg (by omega)]⟩) (r (nck rfl) (r (fa Tryd.underlying141 rfl ti2 rfl rfl) (ef0 (xst (vs := [.int .i64 ((s.mix * 1103 + 12347) % 1000003)]) ti2 rfl rfl (cel1 rfl) b3 rfl (Nat.le_of_ble_eq_true rfl) (one_all rfl)) ?_)))))))))))
        rintro w4 ⟨-, b4, c4⟩
        have H2 : Hold w F w4 [rB g 141 ([v, .int .i64 (s.pt : Int), .int .i64 ((s.mix * 1103 + 12347) % 1000003), .int .i64 s.size]), rR u8 5 v s.code] := Hold.setB H1 0 rfl b4 c4 rfl
        clear H1
        clear b4 c4
        refine re (sq ?_)
        refine gen (fun ρ => ρ 0 = .pointer (some ⟨g, 0, none⟩) ∧ ρ 1 = .int .i64 m ∧ ρ 4 = .int .i64 0 ∧ True) ⟨z0, z1, z4, trivial⟩ ?_
        rintro ρ ⟨z0, z1, z4, -⟩
        have b5 : B w4 g 141 ([v, .int .i64 (s.pt : Int), .int .i64 ((s.mix * 1103 + 12347) % 1000003), .int .i64 s.size]) := Hold.blk H2 0 rfl
        refine rg (r (mv z0) (r (nck rfl) (r (fa Tryd.underlying141 rfl ti2 rfl rfl) (r (ldb Tryd.underlying2 rfl rfl b5 rfl) (r (dv (a := (s.mix * 1103 + 12347) % 1000003) (b := 3) ((s.mix * 1103 + 12347) % 1000003 / 3) rfl rfl ⟨by omega, by rw [Int.tdiv_eq_ediv_of_nonneg (by omega)], by omega, by omega⟩) (r (mv z1) (r (rm (a := (s.mix * 1103 + 12347) % 1000003 / 3) (b := m) ((s.mix * 1103 + 12347) % 1000003 / 3 % m) rfl rfl ⟨by omega, by rw [Int.tmod_eq_emod_of_nonneg (by omega)]⟩) (r (sa rfl) (re (rt ?_))))))))))
        exact fin1 (v := .int .i64 ((s.mix * 1103 + 12347) % 1000003 / 3 % m)) Tryd.results91 rfl ⟨rfl, H2⟩
    · refine gnq rfl rfl rfl (gnq rfl rfl rfl (q (pk rfl rfl) (me ?_)))
      intro w1 c1
      have H1 : Hold w F w1 [rB g 141 ([v, .int .i64 (s.pt : Int), .int .i64 s.mix, .int .i64 s.size]), rR u8 5 v s.code] := Hold.t H0 c1
      clear H0
      refine cf rfl (sk (sq ?_))
      refine gen (fun ρ => ρ 0 = .pointer (some ⟨g, 0, none⟩) ∧ ρ 1 = .int .i64 m ∧ ρ 4 = .int .i64 0 ∧ True) ⟨rfl, rfl, rfl, trivial⟩ ?_
      rintro ρ ⟨z0, z1, z4, -⟩
      have b3 : B w1 g 141 ([v, .int .i64 (s.pt : Int), .int .i64 s.mix, .int .i64 s.size]) := Hold.blk H1 0 rfl
      refine rg (r (mv z0) (r (mv z0) (r (nck rfl) (r (fa Tryd.underlying141 rfl ti2 rfl rfl) (r (ldb Tryd.underlying2 rfl rfl b3 rfl) (r (ml (a := s.mix) (b := 1103) (s.mix * 1103) rfl rfl (by omega)) (r (ad (a := s.mix * 1103) (b := 12347) ((s.mix * 1103) + 12347) rfl rfl (by omega)) ?_)))))))
      rw [show nx s m = ((s.mix * 1103 + 12347) % 1000003 / 3 % m, { s with mix := (s.mix * 1103 + 12347) % 1000003 }) by unfold nx; rw [if_neg (by omega), dif_neg (by omega)]]
      refine r (rm (a := (s.mix * 1103) + 12347) (b := 1000003) ((s.mix * 1103 + 12347) % 1000003) rfl rfl ⟨by omega, by rw [Int.tmod_eq_emod_of_nonneg (by omega)]⟩) (r (nck rfl) (r (fa Tryd.underlying141 rfl ti2 rfl rfl) (ef0 (xst (vs := [.int .i64 ((s.mix * 1103 + 12347) % 1000003)]) ti2 rfl rfl (cel1 rfl) b3 rfl (Nat.le_of_ble_eq_true rfl) (one_all rfl)) ?_)))
      rintro w4 ⟨-, b4, c4⟩
      have H2 : Hold w F w4 [rB g 141 ([v, .int .i64 (s.pt : Int), .int .i64 ((s.mix * 1103 + 12347) % 1000003), .int .i64 s.size]), rR u8 5 v s.code] := Hold.setB H1 0 rfl b4 c4 rfl
      clear H1
      clear b4 c4
      refine re (sq ?_)
      refine gen (fun ρ => ρ 0 = .pointer (some ⟨g, 0, none⟩) ∧ ρ 1 = .int .i64 m ∧ ρ 4 = .int .i64 0 ∧ True) ⟨z0, z1, z4, trivial⟩ ?_
      rintro ρ ⟨z0, z1, z4, -⟩
      have b5 : B w4 g 141 ([v, .int .i64 (s.pt : Int), .int .i64 ((s.mix * 1103 + 12347) % 1000003), .int .i64 s.size]) := Hold.blk H2 0 rfl
      refine rg (r (mv z0) (r (nck rfl) (r (fa Tryd.underlying141 rfl ti2 rfl rfl) (r (ldb Tryd.underlying2 rfl rfl b5 rfl) (r (dv (a := (s.mix * 1103 + 12347) % 1000003) (b := 3) ((s.mix * 1103 + 12347) % 1000003 / 3) rfl rfl ⟨by omega, by rw [Int.tdiv_eq_ediv_of_nonneg (by omega)], by omega, by omega⟩) (r (mv z1) (r (rm (a := (s.mix * 1103 + 12347) % 1000003 / 3) (b := m) ((s.mix * 1103 + 12347) % 1000003 / 3 % m) rfl rfl ⟨by omega, by rw [Int.tmod_eq_emod_of_nonneg (by omega)]⟩) (r (sa rfl) (re (rt ?_))))))))))
      exact fin1 (v := .int .i64 ((s.mix * 1103 + 12347) % 1000003 / 3 % m)) Tryd.results91 rfl ⟨rfl, H2⟩
end Go.Proofs.YtgpcanjmgdmdhaaDoor
