/-
  CONTRACTS 20: numbers read out of bytes; sources. No condition.
-/
import Derived.Test.YtgpcanjmgdmdhaaDoorEx
import Derived.Test.YtgpcanjmgdmdhaaDoor16
namespace Go.Proofs.YtgpcanjmgdmdhaaDoor
open Go Go.Eng
set_option maxRecDepth 100000
set_option maxHeartbeats 4000000
set_option linter.unusedVariables false
set_option linter.unusedSimpArgs false
/-- The number that bytes are, the highest first. -/
def unbig (xs : List Int) : Int := xs.foldl (fun v b => v * 256 + b) 0
theorem unbig_snoc (xs : List Int) (b : Int) : unbig (xs ++ [b]) = unbig xs * 256 + b := by simp [unbig]
theorem unbig_nn {xs : List Int} (h : ok8 xs) : 0 ≤ unbig xs := by
  have : ∀ (xs : List Int) (v : Int), ok8 xs → 0 ≤ v → 0 ≤ xs.foldl (fun v b => v * 256 + b) v := by
    intro xs
    induction xs with
    | nil => intro v _ h; exact h
    | cons x xs ih =>
      intro v h hv
      have := h x (by simp)
      exact ih _ (fun y hy => h y (by simp [hy])) (by show 0 ≤ v * 256 + x; omega)
  exact this xs 0 h (by omega)
theorem unbig_take {xs : List Int} {k : Nat} (hk : k < xs.length) : unbig (xs.take (k + 1)) = unbig (xs.take k) * 256 + xs[k] := by
  rw [List.take_succ_eq_append_getElem hk, unbig_snoc]
theorem ok8_take {xs : List Int} (h : ok8 xs) (k : Nat) : ok8 (xs.take k) := fun x hx => h x (List.mem_of_mem_take hx)
theorem ok8_drop {xs : List Int} (h : ok8 xs) (k : Nat) : ok8 (xs.drop k) := fun x hx => h x (List.mem_of_mem_drop hx)
theorem unbig_le {xs : List Int} (h : ok8 xs) (k : Nat) : unbig (xs.take k) ≤ unbig xs := by
  by_cases hk : k ≤ xs.length
  · obtain ⟨m, hm⟩ : ∃ m, xs.length = k + m := ⟨xs.length - k, by omega⟩
    have : ∀ j, k + j ≤ xs.length → unbig (xs.take k) ≤ unbig (xs.take (k + j)) := by
      intro j
      induction j with
      | zero => intro _; exact Int.le_refl _
      | succ j ih =>
        intro hj
        have h1 := ih (by omega)
        have h2 := unbig_take (xs := xs) (k := k + j) (by omega)
        have h3 := unbig_nn (ok8_take h (k + j))
        have h4 := h xs[k + j] (List.getElem_mem (by omega))
        rw [← Nat.add_assoc, h2]; omega
    have := this m (by omega)
    rw [← hm, List.take_length] at this
    exact this
  · rw [List.take_of_length_le (by omega)]; exact Int.le_refl _
theorem unbig_lt {xs : List Int} (h : ok8 xs) : unbig xs < 256 ^ xs.length := by
  have : ∀ j, j ≤ xs.length → unbig (xs.take j) < 256 ^ j := by
    intro j
    induction j with
    | zero => intro _; simp [unbig]
    | succ j ih =>
      intro hj
      have h1 := ih (by omega)
      have h4 := h xs[j] (List.getElem_mem (by omega))
      rw [unbig_take (by omega), Int.pow_succ]; omega
  have := this xs.length (Nat.le_refl _)
  rwa [List.take_length] at this
theorem unbig_2 {xs : List Int} (h : ok8 xs) (hl : xs.length = 2) : unbig xs ≤ 65535 := by
  have := unbig_lt h
  rw [hl] at this
  have e : (256 : Int) ^ 2 = 65536 := by rfl
  omega
theorem i64_w {x : Int} : ∃ q : Int, IntKind.i64.wrap x = x - q * 18446744073709551616 ∧ -9223372036854775808 ≤ IntKind.i64.wrap x ∧ IntKind.i64.wrap x ≤ 9223372036854775807 := by
  have h1 := Int.mul_ediv_add_emod x 18446744073709551616
  have h2 := Int.emod_nonneg x (show (18446744073709551616 : Int) ≠ 0 by omega)
  have h3 := Int.emod_lt_of_pos x (show (0 : Int) < 18446744073709551616 by omega)
  unfold IntKind.wrap
  simp only [IntKind.bits, IntKind.signed]
  by_cases c : x % (2 ^ 64 : Int) ≥ (2 ^ (64 - 1) : Int)
  · refine ⟨x / 18446744073709551616 + 1, ?_⟩
    simp only [Bool.true_and, decide_eq_true c, if_true]
    simp at c ⊢
    omega
  · refine ⟨x / 18446744073709551616, ?_⟩
    simp only [Bool.true_and, decide_eq_false c]
    simp at c ⊢
    omega
theorem i64_cong {x y q : Int} (h : x = y + q * 18446744073709551616) : IntKind.i64.wrap x = IntKind.i64.wrap y := by
  obtain ⟨q1, h1, _, _⟩ := i64_w (x := x)
  obtain ⟨q2, h2, _, _⟩ := i64_w (x := y)
  omega
theorem i64_id {x : Int} (h : -9223372036854775808 ≤ x ∧ x ≤ 9223372036854775807) : IntKind.i64.wrap x = x := IntWalk.i64_in _ (by omega)
theorem shl8 {v : Int} : (0 : Int) ≤ 8 ∧ IntKind.i64.wrap (IntKind.i64.wrap v * 2 ^ (min (8 : Int).toNat IntKind.i64.bits)) = IntKind.i64.wrap (v * 256) := by
  refine ⟨by omega, ?_⟩
  obtain ⟨q, hq, _, _⟩ := i64_w (x := v)
  show IntKind.i64.wrap (IntKind.i64.wrap v * 256) = _
  apply i64_cong (q := -(q * 256))
  rw [hq]; omega
theorem or_low {a c : Int} (hc : 0 ≤ c ∧ c ≤ 255) : bits .or .i64 (IntKind.i64.wrap (a * 256)) c = IntKind.i64.wrap (a * 256 + c) := by
  obtain ⟨q, hq, _, _⟩ := i64_w (x := a * 256)
  have e0 : (BitVec.ofInt 64 (IntKind.i64.wrap (a * 256))).toNat = ((a * 256) % 18446744073709551616).toNat := by
    rw [BitVec.toNat_ofInt, hq]
    congr 1
    show (a * 256 - q * 18446744073709551616) % 18446744073709551616 = _
    omega
  obtain ⟨r, hr⟩ : ∃ r : Nat, ((a * 256) % 18446744073709551616).toNat = r * 256 := by
    refine ⟨(a % 72057594037927936).toNat, ?_⟩
    omega
  obtain ⟨m, rfl⟩ : ∃ m : Nat, c = (m : Int) := ⟨c.toNat, by omega⟩
  have e1 : (BitVec.ofInt 64 (m : Int)).toNat = m := by
    rw [BitVec.toNat_ofInt]
    show ((m : Int) % 18446744073709551616).toNat = m
    omega
  unfold bits
  show IntKind.i64.wrap (((BitVec.ofInt 64 (IntKind.i64.wrap (a * 256))) ||| (BitVec.ofInt 64 (m : Int))).toNat : Int) = _
  rw [BitVec.toNat_or, e0, e1, hr]
  have e2 : r * 256 ||| m = r * 256 + m := by
    have := Nat.two_pow_add_eq_or_of_lt (i := 8) (b := m) (by omega) r
    rw [Nat.mul_comm] at this
    exact this.symm
  rw [e2]
  apply i64_cong (q := -((a * 256) / 18446744073709551616))
  omega
theorem l2Number {w : World} {F : List Nat} {v : Value} {xs : List Int} (hx : u8.R w F v xs) (lx : xs.length ≤ 1000000000) (ok : ok8 xs) (hb : unbig xs ≤ 9223372036854775807) :
    Ret Tryd.prog 38 #[v] w (fun r w' => r = .int .i64 (unbig xs) ∧ Hold w [] w' []) := by
  refine enter Tryd.func38 rfl Tryd.ntmps38 (by rfl) (by rfl) ?_
  have H0 : Hold w [] w [] := Hold.start w
  refine sq (rg (r (sa rfl) (re (sq (rg (r (sa rfl) (re (sq (sq (rg (r (sa rfl) (re (bl ?_)))))))))))))
  refine lp (α := Nat) (fun k ρ w' => ρ 0 = v ∧ ρ 3 = .int .i64 (unbig (xs.take k)) ∧ ρ 4 = .int .i64 (k : Int) ∧ Hold w [] w' [] ∧ k ≤ xs.length) (fun k => xs.length - k) 0 ?_ ?_
  · exact ⟨rfl, rfl, rfl, H0, by omega⟩
  clear H0
  rintro k ρ w501 ⟨y0, y3, y4, H1, hk⟩
  refine sq (sq (rg (r (mv y4) (r (mv y0) (r (ln Tryd.underlying22 rfl ((hx.t (Hold.ch H1)))) (r (bi rfl rfl rfl) (re ?_)))))))
  refine cp rfl (fun h => ?_) (fun h => ?_)
  · have hk' : k < xs.length := by omega
    have h1 := unbig_take hk'
    have h2 := unbig_nn (ok8_take ok k)
    have h3 := unbig_le ok (k + 1)
    have h4 := ok xs[k] (List.getElem_mem hk')
    refine sk (sq (bl (rg (r (mv y3) (r (ml (a := unbig (xs.take k)) (b := 256) ((unbig (xs.take k)) * 256) rfl rfl (by omega)) (r (mv y0) (r (mv y4) ?_)))))))
    obtain ⟨c15_1, ad15_1, k15_1, e15_1, p15_1⟩ := Kd.R.place hx k (by omega)
    refine r (ix (j := k) Tryd.underlying22 ti5 e15_1 rfl (by omega)) (r (ld Tryd.underlying5 rfl rfl (Ch.cell (Hold.ch H1) p15_1.cell)) (r (cv (xs[k]) Tryd.underlying5 Tryd.underlying2 rfl (IntWalk.i64_in _ (by omega))) (r (ad (a := (unbig (xs.take k)) * 256) (b := xs[k]) (unbig (xs.take (k + 1))) rfl rfl (by omega)) (r (sa rfl) (re (be ?_))))))
    refine gen (fun ρ => ρ 0 = v ∧ ρ 3 = .int .i64 (unbig (xs.take (k + 1))) ∧ ρ 4 = .int .i64 (k : Int) ∧ True) ⟨y0, rfl, y4, trivial⟩ ?_
    rintro ρ ⟨z0, z3, z4, -⟩
    refine rg (r (mv z4) (r (ad (a := (k : Int)) (b := 1) ((k : Int) + 1) rfl rfl (by omega)) (r (sa rfl) (re ?_))))
    exact ag (k + 1) ⟨z0, z3, rfl, H1, by omega⟩ (by first | omega | (dsimp only; omega))
  · obtain rfl : k = xs.length := by omega
    rw [List.take_length] at y3
    refine ex rfl (sq (rg (r (mv y3) (r (sa rfl) (re (rt ?_))))))
    exact fin1 (v := .int .i64 (unbig xs)) Tryd.results38 rfl ⟨rfl, H1⟩
theorem take {w : World} {G F : List Nat} {g : Nat} {v : Value} {xs : List Int} {n : Nat} (hs : Hs w [rB g 102 [v]] F) (nd : F.Nodup) (hx : u8.R w G v xs) (hd : ∀ k, k ∈ G → k ∉ F) (lx : xs.length ≤ 1000000000) (hn : n ≤ 1000000) :
    RetP Tryd.prog 43 #[.pointer (some ⟨g, 0, none⟩), .int .i64 (n : Int)] w (fun r w' => n ≤ xs.length ∧ r = slv v 0 n 1 ∧ Hold w F w' [rB g 102 [slv v n xs.length 1]]) (fun c w' => xs.length < n ∧ c = [{ v := .iface 128 (.agg #[]), recovered := false }] ∧ Hold w F w' [rB g 102 [v]]) := by
  refine enterP Tryd.func43 rfl Tryd.ntmps43 (by rfl) (by rfl) ?_
  have H0 : Hold w F w [rB g 102 ([v])] := Hold.begin hs nd
  have b1 : B w g 102 ([v]) := Hold.blk H0 0 rfl
  refine sq (rg (r (sa rfl) (re (sq (sq (rg (r (mv rfl) (r (mv rfl) (r (nck rfl) (r (fa Tryd.underlying102 rfl ti22 rfl rfl) (r (ldb Tryd.underlying22 rfl rfl b1 rfl) (r (ln Tryd.underlying22 rfl ((hx.tt (Hold.ch H0) hd))) (r (bi rfl rfl rfl) (re ?_))))))))))))))
  refine cp rfl (fun h => ?_) (fun h => ?_)
  · refine rg (r (bd (r := []) ti128 pl128 pn rfl) (r (mif Tryd.underlying128 rfl rfl) ?_))
    refine pnc (t := 128) (v := (.agg #[])) rfl (fun a ha => ?_)
    exact FinP.panic (show _ ∧ _ ∧ _ from ⟨by omega, rfl, H0⟩) ha
  · have h' : n ≤ xs.length := by omega
    refine sk (sq (rg (r (mv rfl) (r (nck rfl) (r (fa Tryd.underlying102 rfl ti22 rfl rfl) (r (ldb Tryd.underlying22 rfl rfl b1 rfl) (r (mv rfl) (r (slrh (n) Tryd.underlying22 ti5 (hx.tt (Hold.ch H0) hd) rfl rfl (by omega)) (r (sa rfl) (re (sq ?_)))))))))))
    refine gen (fun ρ => ρ 0 = .pointer (some ⟨g, 0, none⟩) ∧ ρ 1 = .int .i64 (n : Int) ∧ ρ 4 = .slice none 0 0 ∧ ρ 5 = slv v 0 n 1 ∧ True) ⟨rfl, rfl, rfl, rfl, trivial⟩ ?_
    rintro ρ ⟨z0, z1, z4, z5, -⟩
    obtain ⟨F3, us3, R3⟩ := Kd.R.sl (hx.tt (Hold.ch H0) hd) (n) (xs.length) (by first | omega | (simp; omega)) (by first | omega | (simp; omega))
    have e3 : (xs.take xs.length).drop n = xs.drop n := by first | (rw [List.take_length, List.drop_drop]; done) | (rw [List.drop_take]; done) | (simp; done) | (rw [List.take_length, List.drop_drop]; congr 1; omega)
    rw [e3] at R3
    obtain ⟨F4, us4, R4⟩ := Kd.R.sl (hx.tt (Hold.ch H0) hd) (n) (xs.length) (by first | omega | (simp; omega)) (by first | omega | (simp; omega))
    have e4 : (xs.take xs.length).drop n = xs.drop n := by first | (rw [List.take_length, List.drop_drop]; done) | (rw [List.drop_take]; done) | (simp; done) | (rw [List.take_length, List.drop_drop]; congr 1; omega)
    rw [e4] at R4
    refine rg (r (mv z0) (r (mv z0) (r (nck rfl) (r (fa Tryd.underlying102 rfl ti22 rfl rfl) (r (ldb Tryd.underlying22 rfl rfl b1 rfl) (r (mv z1) (r (slrl (n) Tryd.underlying22 ti5 (hx.tt (Hold.ch H0) hd) rfl rfl (by omega)) (r (nck rfl) (r (fa Tryd.underlying102 rfl ti22 rfl rfl) (ef0 (xst (vs := [slv v n xs.length 1]) ti22 rfl rfl (cel1 (R3).oneCell) b1 rfl (Nat.le_of_ble_eq_true rfl) (ones1 (R4).oneCell)) ?_))))))))))
    rintro w2 ⟨-, b2, c2⟩
    have H1 : Hold w F w2 [rB g 102 ([slv v n xs.length 1])] := Hold.setB H0 0 rfl b2 c2 rfl
    clear H0
    clear b2 c2
    refine re (sq (rg (r (mv z5) (r (sa rfl) (re (rtp ?_))))))
    refine finp ?_
    exact fin1 (v := slv v 0 n 1) Tryd.results43 rfl ⟨by omega, rfl, H1⟩
theorem num {w : World} {G F : List Nat} {g : Nat} {v : Value} {xs : List Int} {n : Nat} (hs : Hs w [rB g 102 [v]] F) (nd : F.Nodup) (hx : u8.R w G v xs) (hd : ∀ k, k ∈ G → k ∉ F) (lx : xs.length ≤ 1000000000) (hn : n ≤ 1000000) (ok : ok8 xs) :
    RetP Tryd.prog 44 #[.pointer (some ⟨g, 0, none⟩), .int .i64 (n : Int)] w (fun r w' => n ≤ xs.length ∧ r = .int .i64 (IntKind.i64.wrap (unbig (xs.take n))) ∧ Hold w F w' [rB g 102 [slv v n xs.length 1]]) (fun c w' => xs.length < n ∧ c = [{ v := .iface 128 (.agg #[]), recovered := false }] ∧ Hold w F w' [rB g 102 [v]]) := by
  refine enterP Tryd.func44 rfl Tryd.ntmps44 (by rfl) (by rfl) ?_
  have H0 : Hold w F w [rB g 102 ([v])] := Hold.begin hs nd
  obtain ⟨F1, hF1, n1, s1, K1⟩ := Hold.front (Γ := [rB g 102 ([v])]) (Δ := []) H0
  refine sq (rg (r (sa rfl) (re (sq (rg (r (sa rfl) (re (sq (sq (rg (r (mv rfl) (r (mv rfl) (clp go43 (take hF1 n1 (hx.tt (Hold.ch H0) hd) (dis_of hx.lt hd s1) lx hn) (ac rfl (ac rfl an)) (fun c w2 a hp ha => FinP.panic (show _ ∧ _ ∧ _ from ⟨hp.1, hp.2.1, Hold.call K1 hp.2.2⟩) ha) ?_)))))))))))))
  rintro r wa ⟨hn1, rfl, Ha⟩
  have H1 : Hold w F wa [rB g 102 ([slv v n xs.length 1])] := Hold.call K1 Ha
  clear H0
  clear K1 hF1 n1 s1
  clear Ha
  obtain ⟨F2, us2, R2⟩ := Kd.R.sl (hx.tt (Hold.ch H1) hd) (0) (n) (by first | omega | (simp; omega)) (by first | omega | (simp; omega))
  have e2 : (xs.take n).drop 0 = xs.take n := by first | (rw [List.take_length, List.drop_drop]; done) | (rw [List.drop_take]; done) | (simp; done) | (rw [List.take_length, List.drop_drop]; congr 1; omega)
  rw [e2] at R2
  refine r (ln Tryd.underlying22 rfl (R2)) (r (mv rfl) (re (bl ?_)))
  refine lp (α := Nat) (fun k ρ w' => ρ 5 = .int .i64 (IntKind.i64.wrap (unbig ((xs.take n).take k))) ∧ ρ 10 = slv v 0 n 1 ∧ ρ 11 = .int .i64 ((xs.take n).length : Int) ∧ ρ 12 = .int .i64 (k : Int) ∧ Hold w F w' [rB g 102 ([slv v n xs.length 1])] ∧ k ≤ (xs.take n).length) (fun k => (xs.take n).length - k) 0 ?_ ?_
  · exact ⟨rfl, rfl, rfl, rfl, H1, by omega⟩
  clear H1
  rintro k ρ w502 ⟨y5, y10, y11, y12, H2, hk⟩
  refine sq (rg (r (bi y12 y11 rfl) (re (sq ?_))))
  refine cp rfl (fun h => ?_) (fun h => ?_)
  · have hk' : k < (xs.take n).length := by omega
    have h4 := ok8_take ok n _ (List.getElem_mem hk')
    have h1 := unbig_take hk'
    have hl : (xs.take n).length ≤ 1000000000 := by simp; omega
    obtain ⟨F3, us3, R3⟩ := Kd.R.sl (hx.tt (Hold.ch H2) hd) (0) (n) (by first | omega | (simp; omega)) (by first | omega | (simp; omega))
    have e3 : (xs.take n).drop 0 = xs.take n := by first | (rw [List.take_length, List.drop_drop]; done) | (rw [List.drop_take]; done) | (simp; done) | (rw [List.take_length, List.drop_drop]; congr 1; omega)
    rw [e3] at R3
    refine sk (sq (bl (sq (rg ?_))))
    obtain ⟨c14_4, ad14_4, k14_4, e14_4, p14_4⟩ := Kd.R.place R3 k (by omega)
    refine r (ix (j := k) Tryd.underlying22 ti5 (y10.trans e14_4) y12 (by omega)) (r (ld Tryd.underlying5 rfl rfl p14_4.cell) (r (sa rfl) (re (rg (r (mv y5) (r (sh (a := IntKind.i64.wrap (unbig ((xs.take n).take k))) (b := 8) (IntKind.i64.wrap (unbig ((xs.take n).take k) * 256)) rfl rfl (shl8)) (r (mv rfl) (r (cv ((xs.take n)[k]) Tryd.underlying5 Tryd.underlying2 rfl (IntWalk.i64_in _ (by omega))) (r (orl (IntKind.i64.wrap (unbig ((xs.take n).take (k + 1)))) rfl rfl (by rw [h1]; exact or_low h4)) (r (sa rfl) (re (be ?_))))))))))))
    refine gen (fun ρ => ρ 5 = .int .i64 (IntKind.i64.wrap (unbig ((xs.take n).take (k + 1)))) ∧ ρ 10 = slv v 0 n 1 ∧ ρ 11 = .int .i64 ((xs.take n).length : Int) ∧ ρ 12 = .int .i64 (k : Int) ∧ True) ⟨rfl, y10, y11, y12, trivial⟩ ?_
    rintro ρ ⟨z5, z10, z11, z12, -⟩
    refine rg (r (ad (a := (k : Int)) (b := 1) ((k : Int) + 1) z12 rfl (by omega)) (r (mv rfl) (re ?_)))
    exact ag (k + 1) ⟨z5, z10, z11, rfl, H2, by omega⟩ (by first | omega | (dsimp only; omega))
  · obtain rfl : k = (xs.take n).length := by omega
    rw [List.take_length] at y5
    refine ex rfl (sq (rg (r (mv y5) (r (sa rfl) (re (rtp ?_))))))
    refine finp ?_
    exact fin1 (v := .int .i64 (IntKind.i64.wrap (unbig (xs.take n)))) Tryd.results44 rfl ⟨hn1, rfl, H2⟩
end Go.Proofs.YtgpcanjmgdmdhaaDoor
