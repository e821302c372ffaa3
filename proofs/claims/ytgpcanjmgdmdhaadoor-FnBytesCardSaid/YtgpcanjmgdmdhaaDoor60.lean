/-
  CONTRACTS 60: zeros trimmed off the end; an inode read out of bytes. No condition.
-/
import Derived.Test.YtgpcanjmgdmdhaaDoor34
import Derived.Test.YtgpcanjmgdmdhaaDoor25
import Derived.Test.YtgpcanjmgdmdhaaDoorTwo
import Derived.Test.YtgpcanjmgdmdhaaDoorMap
namespace Go.Proofs.YtgpcanjmgdmdhaaDoor
open Go Go.Eng
set_option maxRecDepth 100000
set_option maxHeartbeats 4000000
set_option linter.unusedVariables false
set_option linter.unusedSimpArgs false
/-- What is left of xs when all c at its end are taken off: its first k. -/
abbrev trimmed (xs : List Int) (c : Int) (k : Nat) : Prop := k ≤ xs.length ∧ (∀ (j : Nat) (h : j < xs.length), k ≤ j → xs[j] = c) ∧ ∀ (h : 0 < k) (h' : k - 1 < xs.length), xs[k - 1] ≠ c
theorem trim_step {xs : List Int} {c : Int} {k : Nat} (hk : k + 1 ≤ xs.length) (h : ∀ (j : Nat) (h : j < xs.length), k + 1 ≤ j → xs[j] = c) (e : xs[k] = c) : ∀ (j : Nat) (h : j < xs.length), k ≤ j → xs[j] = c := by
  intro j hj hkj
  by_cases e' : j = k
  · subst e'; exact e
  · exact h j hj (by omega)
theorem slv_slv {v : Value} {n k m : Nat} (h : ∃ A c, v = .slice A n c ∧ n ≤ c) (hm : m ≤ k) (hk : k ≤ n) : slv (slv v 0 k 1) 0 m 1 = slv v 0 m 1 := by
  obtain ⟨A, c, rfl, hc⟩ := h
  simp only [slv, Nat.sub_zero]
  congr 1
  by_cases e : c = 0
  · simp [e]
  · simp [e]
    cases A <;> simp [Addr.add]
theorem slv_id {v : Value} {n : Nat} (h : ∃ A c, v = .slice A n c ∧ n ≤ c) : slv v 0 n 1 = v := by
  obtain ⟨A, c, rfl, hc⟩ := h
  simp only [slv, Nat.sub_zero]
  congr 1
  by_cases e : c = 0
  · simp [e]
  · simp [e]
    cases A <;> simp [Addr.add]
theorem take_at {xs : List Int} {k : Nat} (hk : 0 < k) (hl : k ≤ xs.length) : (xs.take k)[k - 1]'(by simp; omega) = xs[k - 1]'(by omega) := by simp
theorem trimRightByte {w : World} {F : List Nat} {v : Value} {xs : List Int} {c : Int} (hx : u8.R w F v xs) (lx : xs.length ≤ 1000000000) : Ret Tryd.prog 85 #[v, .int .u8 c] w (fun r w' => ∃ k, r = slv v 0 k 1 ∧ trimmed xs c k ∧ Ch [] w w') := by
  refine enter Tryd.func85 rfl Tryd.ntmps85 (by rfl) (by rfl) ?_
  have H0 : Hold w [] w [] := Hold.start w
  have hsh := hx.shape
  refine sq (rg (r (sa rfl) (re (sq (bl ?_)))))
  refine lp (α := Nat) (fun k ρ w' => ρ 0 = slv v 0 k 1 ∧ ρ 1 = .int .u8 c ∧ Hold w [] w' [] ∧ k ≤ xs.length ∧ ∀ (j : Nat) (h : j < xs.length), k ≤ j → xs[j] = c) (fun k => k) xs.length ?_ ?_
  · exact ⟨(slv_id hsh).symm, rfl, H0, ⟨by omega, fun j h h1 => by omega⟩⟩
  clear H0
  rintro k ρ w501 ⟨y0, y1, H1, ⟨hk, hall⟩⟩
  obtain ⟨F1, us1, R1⟩ := Kd.R.sl (hx.t (Hold.ch H1)) (0) (k) (by first | omega | (simp; omega)) (by first | omega | (simp; omega))
  have e1 : (xs.take k).drop 0 = xs.take k := by first | (rw [List.take_length, List.drop_drop]; done) | (rw [List.drop_take]; done) | (simp; done) | (rw [List.take_length, List.drop_drop]; congr 1; omega)
  rw [e1] at R1
  refine sq (sq (rg (r (mv y0) (r (ln Tryd.underlying22 rfl (R1)) (r (bi rfl rfl rfl) (r (mv rfl) ?_))))))
  refine sp 8 rfl (fun h => ?_) (fun h => ?_)
  · have hk' : 0 < k := by simp at h; omega
    have hl : (xs.take k).length = k := by simp; omega
    have e0 := take_at hk' hk
    obtain ⟨F2, us2, R2⟩ := Kd.R.sl (hx.t (Hold.ch H1)) (0) (k) (by first | omega | (simp; omega)) (by first | omega | (simp; omega))
    have e2 : (xs.take k).drop 0 = xs.take k := by first | (rw [List.take_length, List.drop_drop]; done) | (rw [List.drop_take]; done) | (simp; done) | (rw [List.take_length, List.drop_drop]; congr 1; omega)
    rw [e2] at R2
    obtain ⟨F3, us3, R3⟩ := Kd.R.sl (hx.t (Hold.ch H1)) (0) (k) (by first | omega | (simp; omega)) (by first | omega | (simp; omega))
    have e3 : (xs.take k).drop 0 = xs.take k := by first | (rw [List.take_length, List.drop_drop]; done) | (rw [List.drop_take]; done) | (simp; done) | (rw [List.take_length, List.drop_drop]; congr 1; omega)
    rw [e3] at R3
    refine gy rfl rfl rfl (r (mv y0) (gy rfl rfl rfl (r (mv y0) (gy rfl rfl rfl (r (ln Tryd.underlying22 rfl (R2)) (gy rfl rfl rfl (r (sb (a := ((xs.take k).length : Int)) (b := 1) (((k - 1 : Nat) : Int)) rfl rfl (by rw [hl]; omega)) (gy rfl rfl rfl ?_))))))))
    obtain ⟨c13_4, ad13_4, k13_4, e13_4, p13_4⟩ := Kd.R.place R3 (k - 1) (by omega)
    refine r (ix (j := k - 1) Tryd.underlying22 ti5 e13_4 rfl (by omega)) (gy rfl rfl rfl (r (ld Tryd.underlying5 rfl rfl p13_4.cell) (gy rfl rfl rfl (r (mv y1) (gy rfl rfl rfl (r (bi rfl rfl rfl) (r (pk rfl rfl) (re ?_))))))))
    refine cp rfl (fun he => ?_) (fun he => ?_)
    · refine sk (bl ?_)
      refine gen (fun ρ => ρ 0 = slv v 0 k 1 ∧ ρ 1 = .int .u8 c ∧ True) ⟨y0, y1, trivial⟩ ?_
      rintro ρ ⟨z0, z1, -⟩
      obtain ⟨F5, us5, R5⟩ := Kd.R.sl (hx.t (Hold.ch H1)) (0) (k) (by first | omega | (simp; omega)) (by first | omega | (simp; omega))
      have e5 : (xs.take k).drop 0 = xs.take k := by first | (rw [List.take_length, List.drop_drop]; done) | (rw [List.drop_take]; done) | (simp; done) | (rw [List.take_length, List.drop_drop]; congr 1; omega)
      rw [e5] at R5
      obtain ⟨F6, us6, R6⟩ := Kd.R.sl (hx.t (Hold.ch H1)) (0) (k) (by first | omega | (simp; omega)) (by first | omega | (simp; omega))
      have e6 : (xs.take k).drop 0 = xs.take k := by first | (rw [List.take_length, List.drop_drop]; done) | (rw [List.drop_take]; done) | (simp; done) | (rw [List.take_length, List.drop_drop]; congr 1; omega)
      rw [e6] at R6
      refine rg (r (mv z0) (r (mv z0) (r (ln Tryd.underlying22 rfl (R5)) (r (sb (a := ((xs.take k).length : Int)) (b := 1) (((k - 1 : Nat) : Int)) rfl rfl (by rw [hl]; omega)) (r (slrh (k - 1) Tryd.underlying22 ti5 R6 rfl rfl (by omega)) (r (Rn.cast (v' := slv v 0 (k - 1) 1) (sa rfl) (slv_slv hsh (by omega) hk)) (re (be ?_))))))))
      exact ag (k - 1) ⟨rfl, z1, H1, ⟨by omega, trim_step (k := k - 1) (by omega) (fun j h h1 => hall j h (by omega)) (by rw [← e0]; exact he)⟩⟩ (by first | omega | (dsimp only; omega))
    · refine ex rfl (sq ?_)
      refine gen (fun ρ => ρ 0 = slv v 0 k 1 ∧ True) ⟨y0, trivial⟩ ?_
      rintro ρ ⟨z0, -⟩
      refine rg (r (mv z0) (r (sa rfl) (re (rt ?_))))
      exact fin1 (v := slv v 0 k 1) Tryd.results85 rfl ⟨k, rfl, ⟨hk, hall, fun h h1 => by rw [← e0]; exact he⟩, Hold.ch H1⟩
  · have hl : (xs.take k).length = k := by simp; omega
    have hk' : k = 0 := by omega
    refine gn rfl rfl rfl (gn rfl rfl rfl (gn rfl rfl rfl (gn rfl rfl rfl (gn rfl rfl rfl (gn rfl rfl rfl (gn rfl rfl rfl (gn rfl rfl rfl (r (pk rfl rfl) (re (cf rfl (ex rfl (sq ?_))))))))))))
    refine gen (fun ρ => ρ 0 = slv v 0 k 1 ∧ True) ⟨y0, trivial⟩ ?_
    rintro ρ ⟨z0, -⟩
    refine rg (r (mv z0) (r (sa rfl) (re (rt ?_))))
    exact fin1 (v := slv v 0 k 1) Tryd.results85 rfl ⟨k, rfl, ⟨hk, hall, fun h h1 => by omega⟩, Hold.ch H1⟩
theorem TrimRight {w : World} {F : List Nat} {v : Value} {xs : List Int} {s : ByteArray} {c : Int} (hx : u8.R w F v xs) (lx : xs.length ≤ 1000000000) (lp : 0 < xs.length) (hs : nums8 s = [c]) (hc : 0 ≤ c ∧ c < 128) : Ret Tryd.prog 42 #[v, .string s] w (fun r w' => ∃ k, r = slv v 0 k 1 ∧ trimmed xs c k ∧ Ch [] w w') := by
  refine enter Tryd.func42 rfl Tryd.ntmps42 (by rfl) (by rfl) ?_
  have H0 : Hold w [] w [] := Hold.start w
  have hz : s.size = 1 := by rw [← nums8_len, hs]; rfl
  have hne : ¬ s = ⟨#[]⟩ := fun e => by rw [e] at hz; cases hz
  have h0 : (nums8 s)[0]'(by rw [nums8_len]; omega) = c := by simp [hs]
  refine sq (rg (r (sa rfl) (re (sq (sq (rg (r (mv rfl) (r (ln Tryd.underlying22 rfl ((hx.t (Hold.ch H0)))) (r (bi rfl rfl rfl) (r (mv rfl) ?_))))))))))
  refine spf 10 rfl (show (decide ((xs.length : Int) = 0)) = false from (decide_eq_false (by omega))) ?_
  refine gy rfl rfl rfl (r (mv rfl) (gy rfl rfl rfl (r (seq rfl rfl) (r (pk rfl rfl) (re ?_)))))
  refine cf ((rfl : _ = Value.bool (decide (s = ⟨#[]⟩))).trans (congrArg Value.bool (show (decide (s = ⟨#[]⟩)) = false from (decide_eq_false hne)))) ?_
  refine sk (sq (sq (rg (r (mv rfl) (r (lns Tryd.underlying9 rfl) (r (bi rfl rfl rfl) (r (mv rfl) ?_)))))))
  refine spf 18 rfl (show (decide ((s.size : Int) = 1)) = true from (decide_eq_true (by omega))) ?_
  refine gy rfl rfl rfl (r (mv rfl) (gy rfl rfl rfl (r (six (j := 0) Tryd.underlying9 rfl rfl (by omega)) (gy rfl rfl rfl (r (bi rfl rfl rfl) (r (pk rfl rfl) (re ?_)))))))
  refine ct ((rfl : _ = Value.bool (decide (((nums8 s)[0]'(by rw [nums8_len]; omega)) < 128))).trans (congrArg Value.bool (show (decide (((nums8 s)[0]'(by rw [nums8_len]; omega)) < 128)) = true from (decide_eq_true (by omega))))) ?_
  refine sq ?_
  refine gen (fun ρ => ρ 0 = v ∧ ρ 1 = .string s ∧ ρ 4 = .slice none 0 0 ∧ True) ⟨rfl, rfl, rfl, trivial⟩ ?_
  rintro ρ ⟨z0, z1, z4, -⟩
  refine rg (r (mv z0) (r (mv z1) (r (Rn.cast (v' := .int .u8 c) (six (j := 0) Tryd.underlying9 rfl rfl (by omega)) (congrArg (Value.int .u8) h0)) (cl go85 (trimRightByte (hx.t (Hold.ch H0)) lx) (ac rfl (ac rfl an)) ?_))))
  rintro r wt ⟨k, rfl, hk, ct⟩
  have H1 : Hold w [] wt [] := Hold.t H0 ct
  clear H0
  clear ct
  refine r (sa rfl) (re (rt ?_))
  exact fin1 (v := slv v 0 k 1) Tryd.results42 rfl ⟨k, rfl, hk, Hold.ch H1⟩
/-- What an inode's bytes are read as: the name up to the first zero, the size, so many lids. -/
def inN (xs : List Int) : List Int := (xs.take 16).takeWhile (fun b => decide (b ≠ 0))
def inZ (xs : List Int) : Int := unbig ((xs.drop 16).take 2)
def inL (xs : List Int) (n : Nat) : List Int := (List.range n).map (fun i => unbig ((xs.drop (18 + 2 * i)).take 2))
theorem inL_succ (xs : List Int) (n : Nat) : inL xs (n + 1) = inL xs n ++ [unbig ((xs.drop (18 + 2 * n)).take 2)] := by simp [inL, List.range_succ]
theorem inL_len (xs : List Int) (n : Nat) : (inL xs n).length = n := by simp [inL]
theorem two_id {xs : List Int} (ok : ok8 xs) {k : Nat} (h : k + 2 ≤ xs.length) : IntKind.i64.wrap (unbig ((xs.drop k).take 2)) = unbig ((xs.drop k).take 2) ∧ 0 ≤ unbig ((xs.drop k).take 2) ∧ unbig ((xs.drop k).take 2) ≤ 65535 := by
  have h1 := unbig_2 (ok8_take (ok8_drop ok k) 2) (by simp; omega)
  have h2 := unbig_nn (ok8_take (ok8_drop ok k) 2)
  exact ⟨i64_id (by omega), h2, h1⟩
theorem rest_step {w : World} {G : List Nat} {u : Value} {xs : List Int} {k : Nat} (hu : u8.R w G u (xs.drop k)) (hl : 2 ≤ (xs.drop k).length) : ∃ G', (∀ j, j ∈ G' → j ∈ G) ∧ u8.R w G' (slv u 2 (xs.drop k).length 1) (xs.drop (k + 2)) := by
  obtain ⟨G', h1, h2⟩ := Kd.R.sl hu 2 (xs.drop k).length hl (Nat.le_refl _)
  rw [List.take_length, List.drop_drop] at h2
  exact ⟨G', h1, h2⟩
/-- The block of an inode, with the row of its lids. -/
def rIno (g : Nat) (s : ByteArray) (z : Int) (ls : List Int) : Rs := exR (fun v : Value => rP (rB g 25 [.string s, .int .i64 z, v]) (rR i64 2 v ls))
theorem DecodeInode_1 {w : World} {G F : List Nat} {gs gn : Nat} {v : Value} {xs : List Int} (hs : Hs w [rB gs 102 [v], rB gn 25 [.string ⟨#[]⟩, .int .i64 0, .slice none 0 0]] F) (nd : F.Nodup) (hx : u8.R w G v xs) (hd : ∀ k, k ∈ G → k ∉ F) (lx : xs.length ≤ 1000000000) (ok : ok8 xs) :
    RetP Tryd.prog 41 #[.pointer (some ⟨gs, 0, none⟩), .pointer (some ⟨gn, 0, none⟩)] w (fun r w' => 18 ≤ xs.length ∧ Hold w F w' [exR fun s9 : ByteArray => (rF (∃ k, s9 = mkS ((xs.take 16).take k) ∧ trimmed (xs.take 16) 0 k) (rIno gn s9 (inZ xs) (inL xs ((min (inZ xs) 1408 + 63) / 64).toNat)))]) (fun c w' => xs.length < 64 ∧ c = [ranOut] ∧ Hold w F w' [rAn gn 25]) := by
  refine enterP Tryd.func41 rfl Tryd.ntmps41 (by rfl) (by rfl) ?_
  have H0 : Hold w F w [rB gs 102 ([v]), rB gn 25 ([.string (⟨#[]⟩), .int .i64 0, .slice none 0 0])] := Hold.begin hs nd
  have hzs : nums8 (⟨#[0]⟩ : ByteArray) = [0] := by rfl
  obtain ⟨F1, hF1, n1, s1, K1⟩ := Hold.front (Γ := [rB gs 102 ([v])]) (Δ := [rB gn 25 ([.string (⟨#[]⟩), .int .i64 0, .slice none 0 0])]) H0
  refine sq (rg (r (mv rfl) (clp go43 (take (n := 16) hF1 n1 (hx.tt (Hold.ch H0) hd) (dis_of hx.lt hd s1) (by first | assumption | (simp; omega)) (by omega)) (ac rfl (ac rfl an)) (fun c w2 a hp ha => ?_) ?_)))
  · obtain ⟨hb, rfl, Hb⟩ := hp
    have H1 : Hold w F w2 [rB gs 102 ([v]), rB gn 25 ([.string (⟨#[]⟩), .int .i64 0, .slice none 0 0])] := Hold.call K1 Hb
    have H2 : Hold w F w2 [rB gn 25 ([.string (⟨#[]⟩), .int .i64 0, .slice none 0 0]), rB gs 102 ([v])] := Hold.re H1 [1, 0] (by kernel_rfl) (by rfl)
    clear H1
    exact FinP.panic (show _ ∧ _ ∧ _ from ⟨by skip; omega, rfl, (Hold.an H2).only⟩) ha
  rintro r wa ⟨hl16, rfl, Ha⟩
  have H1 : Hold w F wa [rB gs 102 ([slv v 16 xs.length 1]), rB gn 25 ([.string (⟨#[]⟩), .int .i64 0, .slice none 0 0])] := Hold.call K1 Ha
  clear H0
  clear K1 hF1 n1 s1
  clear Ha
  obtain ⟨F3, us3, R3⟩ := Kd.R.sl (hx.tt (Hold.ch H1) hd) (0) (16) (by first | omega | (simp; omega)) (by first | omega | (simp; omega))
  have e3 : (xs.take 16).drop 0 = xs.take 16 := by first | (rw [List.take_length, List.drop_drop]; done) | (rw [List.drop_take]; done) | (simp; done) | (rw [List.take_length, List.drop_drop]; congr 1; omega)
  rw [e3] at R3
  refine cl go42 (TrimRight R3 (by simp; omega) (by simp; omega) hzs (by omega)) (ac rfl (ac rfl an)) ?_
  rintro r wt ⟨k, rfl, hk, ct⟩
  have H2 : Hold w F wt [rB gs 102 ([slv v 16 xs.length 1]), rB gn 25 ([.string (⟨#[]⟩), .int .i64 0, .slice none 0 0])] := Hold.t H1 ct
  clear H1
  clear ct
  obtain ⟨F4, us4, R4⟩ := Kd.R.sl (hx.tt (Hold.ch H2) hd) (0) (16) (by first | omega | (simp; omega)) (by first | omega | (simp; omega))
  have e4 : (xs.take 16).drop 0 = xs.take 16 := by first | (rw [List.take_length, List.drop_drop]; done) | (rw [List.drop_take]; done) | (simp; done) | (rw [List.take_length, List.drop_drop]; congr 1; omega)
  rw [e4] at R4
  obtain ⟨F5, us5, R5⟩ := Kd.R.sl R4 (0) (k) (by first | omega | (simp; omega)) (by first | omega | (simp; omega))
  have e5 : ((xs.take 16).take k).drop 0 = (xs.take 16).take k := by first | (rw [List.take_length, List.drop_drop]; done) | (rw [List.drop_take]; done) | (simp; done) | (rw [List.take_length, List.drop_drop]; congr 1; omega)
  rw [e5] at R5
  have b6 : B wt gn 25 ([.string (⟨#[]⟩), .int .i64 0, .slice none 0 0]) := Hold.blk H2 1 rfl
  refine r (cvbs Tryd.underlying22 Tryd.underlying5 Tryd.underlying9 R5 rfl) (r (fa Tryd.underlying25 rfl ti9 rfl rfl) (ef0 (xst (vs := [.string (mkS ((xs.take 16).take k))]) ti9 rfl rfl (cel1 rfl) b6 rfl (Nat.le_of_ble_eq_true rfl) (one_all rfl)) ?_))
  rintro w7 ⟨-, b7, c7⟩
  have H3 : Hold w F w7 [rB gs 102 ([slv v 16 xs.length 1]), rB gn 25 ([.string (mkS ((xs.take 16).take k)), .int .i64 0, .slice none 0 0])] := Hold.setB H2 1 rfl b7 c7 rfl
  clear H2
  clear b7 c7
  refine re (sq (rg (r (mv rfl) ?_)))
  obtain ⟨F8, hF8, n8, s8, K8⟩ := Hold.front (Γ := [rB gs 102 ([slv v 16 xs.length 1])]) (Δ := [rB gn 25 ([.string (mkS ((xs.take 16).take k)), .int .i64 0, .slice none 0 0])]) H3
  obtain ⟨F9, us9, R9⟩ := Kd.R.sl (hx.tt (Hold.ch H3) hd) (16) (xs.length) (by first | omega | (simp; omega)) (by first | omega | (simp; omega))
  have e9 : (xs.take xs.length).drop 16 = xs.drop 16 := by first | (rw [List.take_length, List.drop_drop]; done) | (rw [List.drop_take]; done) | (simp; done) | (rw [List.take_length, List.drop_drop]; congr 1; omega)
  rw [e9] at R9
  refine clp go44 (num (n := 2) hF8 n8 R9 (fun k hk => (dis_of hx.lt hd s8) k (us9 k hk)) (by first | assumption | (simp; omega)) (by omega) (ok8_drop ok _)) (ac rfl (ac rfl an)) (fun c w2 a hp ha => ?_) ?_
  · obtain ⟨hb, rfl, Hb⟩ := hp
    have H4 : Hold w F w2 [rB gs 102 ([slv v 16 xs.length 1]), rB gn 25 ([.string (mkS ((xs.take 16).take k)), .int .i64 0, .slice none 0 0])] := Hold.call K8 Hb
    have H5 : Hold w F w2 [rB gn 25 ([.string (mkS ((xs.take 16).take k)), .int .i64 0, .slice none 0 0]), rB gs 102 ([slv v 16 xs.length 1])] := Hold.re H4 [1, 0] (by kernel_rfl) (by rfl)
    clear H4
    exact FinP.panic (show _ ∧ _ ∧ _ from ⟨by simp only [List.length_drop] at *; omega, rfl, (Hold.an H5).only⟩) ha
  rintro r wn ⟨hl18, rfl, Hn⟩
  simp only [List.length_drop] at hl18
  obtain ⟨e16, z1, z2⟩ := two_id ok (k := 16) (by omega)
  rw [e16]
  have H4 : Hold w F wn [rB gs 102 ([slv (slv v 16 xs.length 1) 2 ((xs.drop 16).length) 1]), rB gn 25 ([.string (mkS ((xs.take 16).take k)), .int .i64 0, .slice none 0 0])] := Hold.call K8 Hn
  clear H3
  clear K8 hF8 n8 s8
  clear Hn
  have b10 : B wn gn 25 ([.string (mkS ((xs.take 16).take k)), .int .i64 0, .slice none 0 0]) := Hold.blk H4 1 rfl
  refine r (fa Tryd.underlying25 rfl ti2 rfl rfl) (ef0 (xst (vs := [.int .i64 (inZ xs)]) ti2 rfl rfl (cel1 rfl) b10 rfl (Nat.le_of_ble_eq_true rfl) (one_all rfl)) ?_)
  rintro w11 ⟨-, b11, c11⟩
  have H5 : Hold w F w11 [rB gs 102 ([slv (slv v 16 xs.length 1) 2 ((xs.drop 16).length) 1]), rB gn 25 ([.string (mkS ((xs.take 16).take k)), .int .i64 (inZ xs), .slice none 0 0])] := Hold.setB H4 1 rfl b11 c11 rfl
  clear H4
  clear b11 c11
  have b12 : B w11 gn 25 ([.string (mkS ((xs.take 16).take k)), .int .i64 (inZ xs), .slice none 0 0]) := Hold.blk H5 1 rfl
  refine re (sq (rg (r (fa Tryd.underlying25 rfl ti2 rfl rfl) (r (ldb Tryd.underlying2 rfl rfl b12 rfl) ?_))))
  have hu0 : ∃ Gu, (∀ k, k ∈ Gu → k ∈ G) ∧ u8.R w Gu (slv (slv v 16 xs.length 1) 2 ((xs.drop 16).length) 1) (xs.drop (18 + 2 * 0)) := by
    obtain ⟨G1, g1, r1⟩ := Kd.R.sl hx 16 xs.length (by omega) (Nat.le_refl _)
    rw [List.take_length] at r1
    obtain ⟨G2, g2, r2⟩ := rest_step r1 (by simp; omega)
    exact ⟨G2, fun k hk => g1 k (g2 k hk), r2⟩
  obtain ⟨N, hN⟩ : ∃ N : Nat, ((min (inZ xs) 1408 + 63) / 64).toNat = N := ⟨_, rfl⟩
  have hZ : 0 ≤ inZ xs ∧ inZ xs ≤ 65535 := ⟨z1, z2⟩
  have hN' : (min (inZ xs) 1408 + 63) / 64 = (N : Int) ∧ N ≤ 22 := by omega
  rw [hN]
  refine r (mn2 (min (inZ xs) 1408) rfl rfl (by omega)) (cl go45 (dataBlocks (n := min (inZ xs) 1408) (by omega)) (ac rfl an) ?_)
  rintro r wb ⟨rfl, cb⟩
  have H6 : Hold w F wb [rB gs 102 ([slv (slv v 16 xs.length 1) 2 ((xs.drop 16).length) 1]), rB gn 25 ([.string (mkS ((xs.take 16).take k)), .int .i64 (inZ xs), .slice none 0 0])] := Hold.t H5 cb
  clear H5
  clear cb
  refine r (mv rfl) (re (bl ?_))
  rw [hN'.1]
  have H7 : Hold w F wb [rB gs 102 ([slv (slv v 16 xs.length 1) 2 ((xs.drop 16).length) 1]), rB gn 25 ([.string (mkS ((xs.take 16).take k)), .int .i64 (inZ xs), .slice none 0 0]), rR i64 2 (.slice none 0 0) ([])] := Hold.nilrow i64 2 H6
  clear H6
  refine lp (α := Nat × Value × Value) (fun (i, o, u) ρ w' => ρ 0 = .pointer (some ⟨gs, 0, none⟩) ∧ ρ 1 = .pointer (some ⟨gn, 0, none⟩) ∧ ρ 14 = .int .i64 (N : Int) ∧ ρ 15 = .int .i64 (i : Int) ∧ Hold w F w' [rB gs 102 ([u]), rB gn 25 ([.string (mkS ((xs.take 16).take k)), .int .i64 (inZ xs), o]), rR i64 2 o (inL xs i)] ∧ i ≤ N ∧ 18 + 2 * i ≤ xs.length ∧ ∃ Gu, (∀ k, k ∈ Gu → k ∈ G) ∧ u8.R w Gu u (xs.drop (18 + 2 * i))) (fun (i, o, u) => N - i) (0, .slice none 0 0, slv (slv v 16 xs.length 1) 2 ((xs.drop 16).length) 1) ?_ ?_
  · exact ⟨rfl, rfl, rfl, rfl, H7, ⟨by omega, by omega, hu0⟩⟩
  clear H7
  rintro ⟨i, o, u⟩ ρ w508 ⟨y0, y1, y14, y15, H8, ⟨hi, hil, Gu, hgu, hu⟩⟩
  have hdu : ∀ k, k ∈ Gu → k ∉ F := fun k hk => hd k (hgu k hk)
  refine sq (rg (r (bi y15 y14 rfl) (re (sq ?_))))
  refine cp rfl (fun h => ?_) (fun h => ?_)
  · have hi' : i < N := by omega
    refine sk (sq (bl ?_))
    refine rde mixed ?_
    intro w14 c14
    have H9 : Hold w F w14 [rB gs 102 ([u]), rB gn 25 ([.string (mkS ((xs.take 16).take k)), .int .i64 (inZ xs), o]), rR i64 2 o (inL xs i)] := Hold.t H8 c14
    clear H8
    clear c14
    have H10 : Hold w F w14 [rB gs 102 ([u]), rR i64 2 o (inL xs i), rB gn 25 ([.string (mkS ((xs.take 16).take k)), .int .i64 (inZ xs), o])] := Hold.re H9 [0, 2, 1] (by kernel_rfl) (by rfl)
    clear H9
    obtain ⟨Fd15, hFd15, nd15, Kd15, Xd15, sd15⟩ := Hold.frontx (Γ := [rB gs 102 ([u]), rR i64 2 o (inL xs i)]) (Δ := [rB gn 25 ([.string (mkS ((xs.take 16).take k)), .int .i64 (inZ xs), o])]) H10
    have H15d0 : Hold w14 Fd15 w14 [rB gs 102 ([u]), rR i64 2 o (inL xs i)] := Hold.begin hFd15 nd15
    refine ⟨fun w' => Ch Fd15 w14 w', Ch.refl _ _, ?_⟩
    obtain ⟨_, ⟨rfl, b16⟩, x16⟩ := Xd15 0 (rB gn 25 ([.string (mkS ((xs.take 16).take k)), .int .i64 (inZ xs), o])) rfl
    obtain ⟨F17, hF17, n17, s17, K17⟩ := Hold.front (Γ := [rB gs 102 ([u])]) (Δ := [rR i64 2 o (inL xs i)]) H15d0
    refine edt 0 rfl (by kernel_rfl) (fun w' hS => fa Tryd.underlying25 rfl ti23 rfl y1) (edt 1 rfl (by kernel_rfl) (fun w' hS => ldb Tryd.underlying23 rfl rfl (hS.b b16 (x16 _ (by simp))) rfl) (edt 2 rfl (by kernel_rfl) (fun w' hS => mv y0) (ed1 3 (by kernel_rfl) <| eucp rfl go44 (ac rfl (ac rfl an)) (num (n := 2) hF17 n17 ((hu.tt (Hold.ch H10) hdu).tt (Hold.ch H15d0) (dis_of hu.lt hdu sd15)) (dis_of (Kd.R.lt (hu.tt (Hold.ch H10) hdu)) (dis_of hu.lt hdu sd15) s17) (by first | assumption | (simp; omega)) (by omega) (ok8_drop ok _)) (fun c w2 hp => ?_) ?_)))
    · intro a ha
      obtain ⟨hb, rfl, Hb⟩ := hp
      have H11d : Hold w14 Fd15 w2 [rB gs 102 ([u]), rR i64 2 o (inL xs i)] := Hold.call K17 Hb
      obtain ⟨ρ9, ha⟩ := ha
      have H12 : Hold w F w2 [rB gs 102 ([u]), rR i64 2 o (inL xs i), rB gn 25 ([.string (mkS ((xs.take 16).take k)), .int .i64 (inZ xs), o])] := Hold.call Kd15 H11d
      clear H11d H10
      refine den_panic _ _ _ _ ?_
      have H13 : Hold w F w2 [rB gn 25 ([.string (mkS ((xs.take 16).take k)), .int .i64 (inZ xs), o]), rB gs 102 ([u]), rR i64 2 o (inL xs i)] := Hold.re H12 [2, 0, 1] (by kernel_rfl) (by rfl)
      clear H12
      exact FinP.panic (show _ ∧ _ ∧ _ from ⟨by simp only [List.length_drop] at *; omega, rfl, (Hold.an H13).only⟩) ha
    rintro r wn ⟨hl2, rfl, Hn⟩
    simp only [List.length_drop] at hl2
    obtain ⟨e2, z5, z6⟩ := two_id ok (k := 18 + 2 * i) (by omega)
    rw [e2]
    have H11d : Hold w14 Fd15 wn [rB gs 102 ([slv u 2 ((xs.drop (18 + 2 * i)).length) 1]), rR i64 2 o (inL xs i)] := Hold.call K17 Hn
    clear H15d0
    clear K17 hF17 n17 s17
    clear Hn
    refine ⟨.inr (Hold.ch H11d), ?_⟩
    refine ed1 4 (by kernel_rfl) <| euf rfl (xbs1 (cs := [.int .i64 (unbig ((xs.drop (18 + 2 * i)).take 2))]) Tryd.underlying23 ti2 rfl rfl rfl (cel1 rfl) rfl) ?_
    rintro _ w18 ⟨g21, e18, rfl, -, b18, c18⟩
    have H12d : Hold w14 Fd15 w18 [rB gs 102 ([slv u 2 ((xs.drop (18 + 2 * i)).length) 1]), rR i64 2 o (inL xs i), rB g21 2 ([.int .i64 (unbig ((xs.drop (18 + 2 * i)).take 2))])] := Hold.newB H11d e18 b18 c18
    clear H11d
    clear e18 b18 c18
    refine ⟨.inr (Hold.ch H12d), ?_⟩
    have b20 : B w18 g21 2 ([.int .i64 (unbig ((xs.drop (18 + 2 * i)).take 2))]) := Hold.blk H12d 2 rfl
    obtain ⟨F21, P21, n21, s21, K21⟩ := Hold.pick H12d 1 rfl
    replace P21 : Kd.W i64 2 w18 F21 o (inL xs i) := P21
    refine ed1 5 (by kernel_rfl) <| euf rfl (xapb (ys := [unbig ((xs.drop (18 + 2 * i)).take 2)]) Tryd.underlying23 ti2 rfl rfl rfl P21 b20 (els_one (R := Kd.O i64 _) (show Kd.O i64 _ [] (unbig ((xs.drop (18 + 2 * i)).take 2)) _ from ⟨rfl, rfl⟩)) (nodup_nil n21) (by simp [inL_len]; omega)) ?_
    rintro v22_19 w19 ⟨F19, A19⟩
    have H13d : Hold w14 Fd15 w19 [rB gs 102 ([slv u 2 ((xs.drop (18 + 2 * i)).length) 1]), rR i64 2 v22_19 ((inL xs i) ++ [unbig ((xs.drop (18 + 2 * i)).take 2)]), rB g21 2 ([.int .i64 (unbig ((xs.drop (18 + 2 * i)).take 2))])] := Hold.apd K21 P21 A19 rfl
    clear H12d
    clear A19 K21 P21 n21 s21
    refine ⟨.inr (Hold.ch H13d), ?_⟩
    have H14 : Hold w F w19 [rB gs 102 ([slv u 2 ((xs.drop (18 + 2 * i)).length) 1]), rR i64 2 v22_19 ((inL xs i) ++ [unbig ((xs.drop (18 + 2 * i)).take 2)]), rB g21 2 ([.int .i64 (unbig ((xs.drop (18 + 2 * i)).take 2))]), rB gn 25 ([.string (mkS ((xs.take 16).take k)), .int .i64 (inZ xs), o])] := Hold.call Kd15 H13d
    clear H13d H10
    have b22 : B w19 gn 25 ([.string (mkS ((xs.take 16).take k)), .int .i64 (inZ xs), o]) := Hold.blk H14 3 rfl
    obtain ⟨_, R24⟩ : ∃ F, Kd.R i64 w19 F v22_19 ((inL xs i) ++ [unbig ((xs.drop (18 + 2 * i)).take 2)]) := Hold.row H14 1 rfl
    refine edt 6 rfl (by kernel_rfl) (fun w' hS => fa Tryd.underlying25 rfl ti23 rfl y1) (ed1 7 (by kernel_rfl) <| euf0 rfl (xst (vs := [v22_19]) ti23 rfl rfl (cel1 (R24).oneCell) b22 rfl (Nat.le_of_ble_eq_true rfl) (ones1 (R24).oneCell)) ?_)
    rintro w23 ⟨-, b23, c23⟩
    have H15 : Hold w F w23 [rB gs 102 ([slv u 2 ((xs.drop (18 + 2 * i)).length) 1]), rR i64 2 v22_19 ((inL xs i) ++ [unbig ((xs.drop (18 + 2 * i)).take 2)]), rB g21 2 ([.int .i64 (unbig ((xs.drop (18 + 2 * i)).take 2))]), rB gn 25 ([.string (mkS ((xs.take 16).take k)), .int .i64 (inZ xs), v22_19])] := Hold.setB H14 3 rfl b23 c23 rfl
    clear H14
    clear b23 c23
    refine ⟨.inl (by kernel_rfl), ?_⟩
    refine edd (by kernel_rfl) ?_
    refine be (rg (r (ad (a := (i : Int)) (b := 1) ((i : Int) + 1) y15 rfl (by omega)) (r (mv rfl) (re ?_))))
    have H16 : Hold w F w23 [rB gs 102 ([slv u 2 ((xs.drop (18 + 2 * i)).length) 1]), rB gn 25 ([.string (mkS ((xs.take 16).take k)), .int .i64 (inZ xs), v22_19]), rR i64 2 v22_19 ((inL xs i) ++ [unbig ((xs.drop (18 + 2 * i)).take 2)])] := (show Hold w F w23 ([rB gs 102 ([slv u 2 ((xs.drop (18 + 2 * i)).length) 1]), rB gn 25 ([.string (mkS ((xs.take 16).take k)), .int .i64 (inZ xs), v22_19]), rR i64 2 v22_19 ((inL xs i) ++ [unbig ((xs.drop (18 + 2 * i)).take 2)])] ++ [rB g21 2 ([.int .i64 (unbig ((xs.drop (18 + 2 * i)).take 2))])]) from Hold.re H15 [0, 3, 1, 2] (by kernel_rfl) (by rfl)).drop
    clear H15
    exact ag (i + 1, v22_19, slv u 2 ((xs.drop (18 + 2 * i)).length) 1) ⟨y0, y1, y14, rfl, (by rw [inL_succ]; exact H16), ⟨by omega, by omega, (rest_step hu (by simp; omega)).imp fun G' h => ⟨fun k hk => hgu k (h.1 k hk), h.2⟩⟩⟩ (by first | omega | (dsimp only; omega))
  · obtain rfl : i = N := by omega
    refine ex rfl ?_
    have H9 : Hold w F w508 [rB gn 25 ([.string (mkS ((xs.take 16).take k)), .int .i64 (inZ xs), o]), rR i64 2 o (inL xs i)] := (show Hold w F w508 ([rB gn 25 ([.string (mkS ((xs.take 16).take k)), .int .i64 (inZ xs), o]), rR i64 2 o (inL xs i)] ++ [rB gs 102 ([u])]) from Hold.re H8 [1, 2, 0] (by kernel_rfl) (by rfl)).drop
    clear H8
    refine finp ?_
    exact fin0 Tryd.results41 (show _ ∧ _ from ⟨by omega, Hold.exi _ (Hold.facti ⟨k, rfl, hk⟩ (Hold.exi o (Hold.pair H9)))⟩)
