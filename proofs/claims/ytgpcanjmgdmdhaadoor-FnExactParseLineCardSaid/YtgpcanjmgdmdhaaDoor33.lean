/-
  CONTRACTS 33: names and inodes. No condition.
-/
import Derived.Test.YtgpcanjmgdmdhaaDoor22
import Derived.Test.YtgpcanjmgdmdhaaDoor7
import Derived.Test.YtgpcanjmgdmdhaaDoorOth
namespace Go.Proofs.YtgpcanjmgdmdhaaDoor
open Go Go.Eng
set_option maxRecDepth 100000
set_option maxHeartbeats 4000000
set_option linter.unusedVariables false
set_option linter.unusedSimpArgs false
abbrev nameB (b : Int) : Prop := (97 ≤ b ∧ b ≤ 122) ∨ (48 ≤ b ∧ b ≤ 57) ∨ b = 46 ∨ b = 95 ∨ b = 45
abbrev okName (s : List Int) : Prop := (∀ b, b ∈ s → nameB b) ∧ 1 ≤ s.length ∧ s.length ≤ 16
theorem name_step {s : List Int} {i : Nat} (hi : i < s.length) (h : ∀ b, b ∈ s.take i → nameB b) (hb : nameB s[i]) : ∀ b, b ∈ s.take (i + 1) → nameB b := by
  intro b hb'
  rw [List.take_succ_eq_append_getElem hi, List.mem_append, List.mem_singleton] at hb'
  rcases hb' with h' | rfl
  · exact h b h'
  · exact hb
theorem name_no {s : List Int} {i : Nat} (hi : i < s.length) (hb : ¬ nameB s[i]) : ¬ okName s := fun h => hb (h.1 _ (List.getElem_mem hi))
theorem l2NameByte {w : World} {b : Int} : Ret Tryd.prog 118 #[.int .u8 b] w (fun r w' => r = .bool (decide (nameB b)) ∧ Ch [] w w') := by
  refine enter Tryd.func118 rfl Tryd.ntmps118 (by rfl) (by rfl) ?_
  have H0 : Hold w [] w [] := Hold.start w
  refine sq (rg (r (sa rfl) (re (sq (rg (r (mv rfl) (r (bi rfl rfl rfl) (r (mv rfl) ?_))))))))
  refine sp 5 rfl (fun h0 => ?_) (fun h0 => ?_)
  · refine gy rfl rfl rfl (r (mv rfl) (gy rfl rfl rfl (r (bi rfl rfl rfl) (r (pk rfl rfl) (r (mv rfl) ?_)))))
    refine sp 9 rfl (fun h1 => ?_) (fun h1 => ?_)
    · refine gn rfl rfl rfl (gn rfl rfl rfl (gn rfl rfl rfl (gu rfl rfl rfl (gu rfl rfl rfl (gn rfl rfl rfl (r (pk rfl rfl) (r (mv rfl) (gn rfl rfl rfl (gn rfl rfl rfl (r (pk rfl rfl) (r (mv rfl) (gn rfl rfl rfl (gn rfl rfl rfl (r (pk rfl rfl) (r (mv rfl) (gn rfl rfl rfl (gn rfl rfl rfl (r (pk rfl rfl) (r (sa rfl) (re (rt ?_)))))))))))))))))))))
      have hD : true = decide (nameB b) := by first | exact decide_eq_decide.2 (by unfold nameB; omega) | exact (decide_eq_true (by unfold nameB; omega)).symm | exact (decide_eq_false (by unfold nameB; omega)).symm
      exact fin1 (v := .bool true) Tryd.results118 rfl ⟨congrArg Value.bool hD, Hold.ch H0⟩
    · refine gy rfl rfl rfl (r (mv rfl) (gy rfl rfl rfl (r (bi rfl rfl rfl) (gy rfl rfl rfl (r (mv rfl) ?_)))))
      refine sp 12 rfl (fun h2 => ?_) (fun h2 => ?_)
      · refine gy rfl rfl rfl (r (mv rfl) (gy rfl rfl rfl (r (bi rfl rfl rfl) (gy rfl rfl rfl (r (pk rfl rfl) (r (pk rfl rfl) (r (mv rfl) ?_)))))))
        refine sp 17 rfl (fun h3 => ?_) (fun h3 => ?_)
        · refine gn rfl rfl rfl (gn rfl rfl rfl (r (pk rfl rfl) (r (mv rfl) (gn rfl rfl rfl (gn rfl rfl rfl (r (pk rfl rfl) (r (mv rfl) (gn rfl rfl rfl (gn rfl rfl rfl (r (pk rfl rfl) (r (sa rfl) (re (rt ?_)))))))))))))
          have hD : true = decide (nameB b) := by first | exact decide_eq_decide.2 (by unfold nameB; omega) | exact (decide_eq_true (by unfold nameB; omega)).symm | exact (decide_eq_false (by unfold nameB; omega)).symm
          exact fin1 (v := .bool true) Tryd.results118 rfl ⟨congrArg Value.bool hD, Hold.ch H0⟩
        · refine gy rfl rfl rfl (r (mv rfl) (gy rfl rfl rfl (r (bi rfl rfl rfl) (r (pk rfl rfl) (r (mv rfl) ?_)))))
          refine sp 21 rfl (fun h4 => ?_) (fun h4 => ?_)
          · refine gn rfl rfl rfl (gn rfl rfl rfl (r (pk rfl rfl) (r (mv rfl) (gn rfl rfl rfl (gn rfl rfl rfl (r (pk rfl rfl) (r (sa rfl) (re (rt ?_)))))))))
            have hD : true = decide (nameB b) := by first | exact decide_eq_decide.2 (by unfold nameB; omega) | exact (decide_eq_true (by unfold nameB; omega)).symm | exact (decide_eq_false (by unfold nameB; omega)).symm
            exact fin1 (v := .bool true) Tryd.results118 rfl ⟨congrArg Value.bool hD, Hold.ch H0⟩
          · refine gy rfl rfl rfl (r (mv rfl) (gy rfl rfl rfl (r (bi rfl rfl rfl) (r (pk rfl rfl) (r (mv rfl) ?_)))))
            refine sp 25 rfl (fun h5 => ?_) (fun h5 => ?_)
            · refine gn rfl rfl rfl (gn rfl rfl rfl (r (pk rfl rfl) (r (sa rfl) (re (rt ?_)))))
              have hD : true = decide (nameB b) := by first | exact decide_eq_decide.2 (by unfold nameB; omega) | exact (decide_eq_true (by unfold nameB; omega)).symm | exact (decide_eq_false (by unfold nameB; omega)).symm
              exact fin1 (v := .bool true) Tryd.results118 rfl ⟨congrArg Value.bool hD, Hold.ch H0⟩
            · refine gy rfl rfl rfl (r (mv rfl) (gy rfl rfl rfl (r (bi rfl rfl rfl) (r (pk rfl rfl) (r (sa rfl) (re (rt ?_)))))))
              have hD : decide (b = 45) = decide (nameB b) := by first | exact decide_eq_decide.2 (by unfold nameB; omega) | exact (decide_eq_true (by unfold nameB; omega)).symm | exact (decide_eq_false (by unfold nameB; omega)).symm
              exact fin1 (v := .bool (decide (b = 45))) Tryd.results118 rfl ⟨congrArg Value.bool hD, Hold.ch H0⟩
      · refine gn rfl rfl rfl (gn rfl rfl rfl (gy rfl rfl rfl (r (pk rfl rfl) (r (pk rfl rfl) (r (mv rfl) (gy rfl rfl rfl (r (mv rfl) (gy rfl rfl rfl (r (bi rfl rfl rfl) (r (pk rfl rfl) (r (mv rfl) ?_)))))))))))
        refine sp 21 rfl (fun h3 => ?_) (fun h3 => ?_)
        · refine gn rfl rfl rfl (gn rfl rfl rfl (r (pk rfl rfl) (r (mv rfl) (gn rfl rfl rfl (gn rfl rfl rfl (r (pk rfl rfl) (r (sa rfl) (re (rt ?_)))))))))
          have hD : true = decide (nameB b) := by first | exact decide_eq_decide.2 (by unfold nameB; omega) | exact (decide_eq_true (by unfold nameB; omega)).symm | exact (decide_eq_false (by unfold nameB; omega)).symm
          exact fin1 (v := .bool true) Tryd.results118 rfl ⟨congrArg Value.bool hD, Hold.ch H0⟩
        · refine gy rfl rfl rfl (r (mv rfl) (gy rfl rfl rfl (r (bi rfl rfl rfl) (r (pk rfl rfl) (r (mv rfl) ?_)))))
          refine sp 25 rfl (fun h4 => ?_) (fun h4 => ?_)
          · refine gn rfl rfl rfl (gn rfl rfl rfl (r (pk rfl rfl) (r (sa rfl) (re (rt ?_)))))
            have hD : true = decide (nameB b) := by first | exact decide_eq_decide.2 (by unfold nameB; omega) | exact (decide_eq_true (by unfold nameB; omega)).symm | exact (decide_eq_false (by unfold nameB; omega)).symm
            exact fin1 (v := .bool true) Tryd.results118 rfl ⟨congrArg Value.bool hD, Hold.ch H0⟩
          · refine gy rfl rfl rfl (r (mv rfl) (gy rfl rfl rfl (r (bi rfl rfl rfl) (r (pk rfl rfl) (r (sa rfl) (re (rt ?_)))))))
            have hD : decide (b = 45) = decide (nameB b) := by first | exact decide_eq_decide.2 (by unfold nameB; omega) | exact (decide_eq_true (by unfold nameB; omega)).symm | exact (decide_eq_false (by unfold nameB; omega)).symm
            exact fin1 (v := .bool (decide (b = 45))) Tryd.results118 rfl ⟨congrArg Value.bool hD, Hold.ch H0⟩
  · refine gn rfl rfl rfl (gn rfl rfl rfl (r (pk rfl rfl) (r (mv rfl) (gy rfl rfl rfl (r (mv rfl) (gy rfl rfl rfl (r (bi rfl rfl rfl) (gy rfl rfl rfl (r (mv rfl) ?_)))))))))
    refine sp 12 rfl (fun h1 => ?_) (fun h1 => ?_)
    · refine gy rfl rfl rfl (r (mv rfl) (gy rfl rfl rfl (r (bi rfl rfl rfl) (gy rfl rfl rfl (r (pk rfl rfl) (r (pk rfl rfl) (r (mv rfl) ?_)))))))
      refine sp 17 rfl (fun h2 => ?_) (fun h2 => ?_)
      · refine gn rfl rfl rfl (gn rfl rfl rfl (r (pk rfl rfl) (r (mv rfl) (gn rfl rfl rfl (gn rfl rfl rfl (r (pk rfl rfl) (r (mv rfl) (gn rfl rfl rfl (gn rfl rfl rfl (r (pk rfl rfl) (r (sa rfl) (re (rt ?_)))))))))))))
        have hD : true = decide (nameB b) := by first | exact decide_eq_decide.2 (by unfold nameB; omega) | exact (decide_eq_true (by unfold nameB; omega)).symm | exact (decide_eq_false (by unfold nameB; omega)).symm
        exact fin1 (v := .bool true) Tryd.results118 rfl ⟨congrArg Value.bool hD, Hold.ch H0⟩
      · refine gy rfl rfl rfl (r (mv rfl) (gy rfl rfl rfl (r (bi rfl rfl rfl) (r (pk rfl rfl) (r (mv rfl) ?_)))))
        refine sp 21 rfl (fun h3 => ?_) (fun h3 => ?_)
        · refine gn rfl rfl rfl (gn rfl rfl rfl (r (pk rfl rfl) (r (mv rfl) (gn rfl rfl rfl (gn rfl rfl rfl (r (pk rfl rfl) (r (sa rfl) (re (rt ?_)))))))))
          have hD : true = decide (nameB b) := by first | exact decide_eq_decide.2 (by unfold nameB; omega) | exact (decide_eq_true (by unfold nameB; omega)).symm | exact (decide_eq_false (by unfold nameB; omega)).symm
          exact fin1 (v := .bool true) Tryd.results118 rfl ⟨congrArg Value.bool hD, Hold.ch H0⟩
        · refine gy rfl rfl rfl (r (mv rfl) (gy rfl rfl rfl (r (bi rfl rfl rfl) (r (pk rfl rfl) (r (mv rfl) ?_)))))
          refine sp 25 rfl (fun h4 => ?_) (fun h4 => ?_)
          · refine gn rfl rfl rfl (gn rfl rfl rfl (r (pk rfl rfl) (r (sa rfl) (re (rt ?_)))))
            have hD : true = decide (nameB b) := by first | exact decide_eq_decide.2 (by unfold nameB; omega) | exact (decide_eq_true (by unfold nameB; omega)).symm | exact (decide_eq_false (by unfold nameB; omega)).symm
            exact fin1 (v := .bool true) Tryd.results118 rfl ⟨congrArg Value.bool hD, Hold.ch H0⟩
          · refine gy rfl rfl rfl (r (mv rfl) (gy rfl rfl rfl (r (bi rfl rfl rfl) (r (pk rfl rfl) (r (sa rfl) (re (rt ?_)))))))
            have hD : decide (b = 45) = decide (nameB b) := by first | exact decide_eq_decide.2 (by unfold nameB; omega) | exact (decide_eq_true (by unfold nameB; omega)).symm | exact (decide_eq_false (by unfold nameB; omega)).symm
            exact fin1 (v := .bool (decide (b = 45))) Tryd.results118 rfl ⟨congrArg Value.bool hD, Hold.ch H0⟩
    · refine gn rfl rfl rfl (gn rfl rfl rfl (gy rfl rfl rfl (r (pk rfl rfl) (r (pk rfl rfl) (r (mv rfl) (gy rfl rfl rfl (r (mv rfl) (gy rfl rfl rfl (r (bi rfl rfl rfl) (r (pk rfl rfl) (r (mv rfl) ?_)))))))))))
      refine sp 21 rfl (fun h2 => ?_) (fun h2 => ?_)
      · refine gn rfl rfl rfl (gn rfl rfl rfl (r (pk rfl rfl) (r (mv rfl) (gn rfl rfl rfl (gn rfl rfl rfl (r (pk rfl rfl) (r (sa rfl) (re (rt ?_)))))))))
        have hD : true = decide (nameB b) := by first | exact decide_eq_decide.2 (by unfold nameB; omega) | exact (decide_eq_true (by unfold nameB; omega)).symm | exact (decide_eq_false (by unfold nameB; omega)).symm
        exact fin1 (v := .bool true) Tryd.results118 rfl ⟨congrArg Value.bool hD, Hold.ch H0⟩
      · refine gy rfl rfl rfl (r (mv rfl) (gy rfl rfl rfl (r (bi rfl rfl rfl) (r (pk rfl rfl) (r (mv rfl) ?_)))))
        refine sp 25 rfl (fun h3 => ?_) (fun h3 => ?_)
        · refine gn rfl rfl rfl (gn rfl rfl rfl (r (pk rfl rfl) (r (sa rfl) (re (rt ?_)))))
          have hD : true = decide (nameB b) := by first | exact decide_eq_decide.2 (by unfold nameB; omega) | exact (decide_eq_true (by unfold nameB; omega)).symm | exact (decide_eq_false (by unfold nameB; omega)).symm
          exact fin1 (v := .bool true) Tryd.results118 rfl ⟨congrArg Value.bool hD, Hold.ch H0⟩
        · refine gy rfl rfl rfl (r (mv rfl) (gy rfl rfl rfl (r (bi rfl rfl rfl) (r (pk rfl rfl) (r (sa rfl) (re (rt ?_)))))))
          have hD : decide (b = 45) = decide (nameB b) := by first | exact decide_eq_decide.2 (by unfold nameB; omega) | exact (decide_eq_true (by unfold nameB; omega)).symm | exact (decide_eq_false (by unfold nameB; omega)).symm
          exact fin1 (v := .bool (decide (b = 45))) Tryd.results118 rfl ⟨congrArg Value.bool hD, Hold.ch H0⟩
theorem spec_ValidName {w : World} {s : ByteArray} (hs : s.size ≤ 9223372036854775807) : Ret Tryd.prog 92 #[.string s] w (fun r w' => r = .bool (decide (okName (nums8 s))) ∧ Ch [] w w') := by
  refine enter Tryd.func92 rfl Tryd.ntmps92 (by rfl) (by rfl) ?_
  have H0 : Hold w [] w [] := Hold.start w
  have hl := nums8_len s
  refine sq (rg (r (sa rfl) (re (sq (sq (rg (r (sa rfl) (re (bl ?_)))))))))
  refine lp (α := Nat) (fun i ρ w' => ρ 0 = .string s ∧ ρ 3 = .int .i64 (i : Int) ∧ Hold w [] w' [] ∧ i ≤ s.size ∧ ∀ b, b ∈ (nums8 s).take i → nameB b) (fun i => s.size - i) 0 ?_ ?_
  · exact ⟨rfl, rfl, H0, ⟨by omega, by simp⟩⟩
  clear H0
  rintro i ρ w501 ⟨y0, y3, H1, ⟨hi, hall⟩⟩
  refine sq (sq (rg (r (mv y3) (r (mv y0) (r (lns Tryd.underlying9 rfl) (r (bi rfl rfl rfl) (re ?_)))))))
  refine cp rfl (fun h => ?_) (fun h => ?_)
  · refine sk (sq (bl (sq (rg (r (mv y0) (r (mv y3) (r (six (j := i) Tryd.underlying9 rfl rfl (by omega)) (cl go118 (l2NameByte) (ac rfl an) ?_))))))))
    rintro r wn ⟨rfl, cn⟩
    have H2 : Hold w [] wn [] := Hold.t H1 cn
    clear H1
    clear cn
    refine r (nt rfl) (re ?_)
    refine cpn rfl (fun hb => ?_) (fun hb => ?_)
    · refine sq (rg (r (sa rfl) (re (rt ?_))))
      exact fin1 (v := .bool false) Tryd.results92 rfl ⟨congrArg Value.bool (decide_eq_false (name_no (i := i) (by omega) hb)).symm, Hold.ch H2⟩
    · have hb' : nameB ((nums8 s)[i]'(by rw [nums8_len]; omega)) := by simpa using hb
      refine sk (be (rg (r (mv y3) (r (ad (a := (i : Int)) (b := 1) ((i : Int) + 1) rfl rfl (by omega)) (r (sa rfl) (re ?_))))))
      exact ag (i + 1) ⟨y0, rfl, H2, ⟨by omega, name_step (by omega) hall hb'⟩⟩ (by first | omega | (dsimp only; omega))
  · obtain rfl : i = s.size := by omega
    rw [List.take_of_length_le (by omega)] at hall
    refine ex rfl (sq (rg (r (mv y0) (r (lns Tryd.underlying9 rfl) (r (bi rfl rfl rfl) (r (mv rfl) ?_))))))
    refine sp 18 rfl (fun h1 => ?_) (fun h1 => ?_)
    · refine gy rfl rfl rfl (r (mv y0) (gy rfl rfl rfl (r (lns Tryd.underlying9 rfl) (gy rfl rfl rfl (r (bi rfl rfl rfl) (r (pk rfl rfl) (r (sa rfl) (re (rt ?_)))))))))
      have hD : decide ((s.size : Int) ≤ 16) = decide (okName (nums8 s)) := by first | exact decide_eq_decide.2 ⟨fun h => ⟨hall, by omega, by omega⟩, fun h => by have := h.2; omega⟩ | exact (decide_eq_false (fun h => by have := h.2; omega)).symm
      exact fin1 (v := .bool (decide ((s.size : Int) ≤ 16))) Tryd.results92 rfl ⟨congrArg Value.bool hD, Hold.ch H1⟩
    · refine gn rfl rfl rfl (gn rfl rfl rfl (gn rfl rfl rfl (r (pk rfl rfl) (r (sa rfl) (re (rt ?_))))))
      have hD : false = decide (okName (nums8 s)) := by first | exact decide_eq_decide.2 ⟨fun h => ⟨hall, by omega, by omega⟩, fun h => by have := h.2; omega⟩ | exact (decide_eq_false (fun h => by have := h.2; omega)).symm
      exact fin1 (v := .bool false) Tryd.results92 rfl ⟨congrArg Value.bool hD, Hold.ch H1⟩
theorem impl_ValidName {w : World} {s : ByteArray} (hs : s.size ≤ 9223372036854775807) : Ret Tryd.prog 89 #[.string s] w (fun r w' => r = .bool (decide (okName (nums8 s))) ∧ Ch [] w w') := by
  refine enter Tryd.func89 rfl Tryd.ntmps89 (by rfl) (by rfl) ?_
  have H0 : Hold w [] w [] := Hold.start w
  have hl := nums8_len s
  refine sq (rg (r (sa rfl) (re (sq (sq (rg (r (mv rfl) (r (lns Tryd.underlying9 rfl) (r (mv rfl) (re (bl ?_)))))))))))
  refine lp (α := Nat) (fun i ρ w' => ρ 0 = .string s ∧ ρ 6 = .int .i64 (s.size : Int) ∧ ρ 7 = .int .i64 (i : Int) ∧ Hold w [] w' [] ∧ i ≤ s.size ∧ ∀ b, b ∈ (nums8 s).take i → nameB b) (fun i => s.size - i) 0 ?_ ?_
  · exact ⟨rfl, rfl, rfl, H0, ⟨by omega, by simp⟩⟩
  clear H0
  rintro i ρ w501 ⟨y0, y6, y7, H1, ⟨hi, hall⟩⟩
  refine sq (rg (r (bi y7 y6 rfl) (re (sq ?_))))
  refine cp rfl (fun h => ?_) (fun h => ?_)
  · refine sk (sq (bl (sq (rg (r (mv y7) (r (sa rfl) (re (sq (rg (r (mv y0) (r (mv rfl) (r (six (j := i) Tryd.underlying9 rfl rfl (by omega)) (r (sa rfl) (re (sq (rg (r (mv rfl) (r (bi rfl rfl rfl) (r (mv rfl) ?_)))))))))))))))))))
    refine sp 15 rfl (fun h0 => ?_) (fun h0 => ?_)
    · refine gn rfl rfl rfl (gn rfl rfl rfl (r (pk rfl rfl) (r (mv rfl) (gy rfl rfl rfl (r (mv rfl) (gy rfl rfl rfl (r (bi rfl rfl rfl) (gy rfl rfl rfl (r (mv rfl) ?_)))))))))
      refine sp 22 rfl (fun h1 => ?_) (fun h1 => ?_)
      · refine gn rfl rfl rfl (gn rfl rfl rfl (gy rfl rfl rfl (r (pk rfl rfl) (r (pk rfl rfl) (r (mv rfl) (gy rfl rfl rfl (r (mv rfl) (gy rfl rfl rfl (r (bi rfl rfl rfl) (r (pk rfl rfl) (r (mv rfl) ?_)))))))))))
        refine spn 31 rfl (fun h2 => ?_) (fun h2 => ?_)
        · refine gy rfl rfl rfl (r (mv rfl) (gy rfl rfl rfl (r (bi rfl rfl rfl) (r (pk rfl rfl) (r (mv rfl) ?_)))))
          refine spn 35 rfl (fun h3 => ?_) (fun h3 => ?_)
          · refine gy rfl rfl rfl (r (mv rfl) (gy rfl rfl rfl (r (bi rfl rfl rfl) (r (pk rfl rfl) (re ?_)))))
            refine cpn rfl (fun h4 => ?_) (fun h4 => ?_)
            · refine sq ?_
              refine gen (fun ρ => ρ 0 = .string s ∧ ρ 6 = .int .i64 (s.size : Int) ∧ ρ 7 = .int .i64 (i : Int) ∧ True) ⟨y0, y6, y7, trivial⟩ ?_
              rintro ρ ⟨z0, z6, z7, -⟩
              refine rg (r (sa rfl) (re (rt ?_)))
              exact fin1 (v := .bool false) Tryd.results89 rfl ⟨congrArg Value.bool (decide_eq_false (name_no (i := i) (by omega) (by unfold nameB; omega))).symm, Hold.ch H1⟩
            · refine sk (be ?_)
              refine gen (fun ρ => ρ 0 = .string s ∧ ρ 6 = .int .i64 (s.size : Int) ∧ ρ 7 = .int .i64 (i : Int) ∧ True) ⟨y0, y6, y7, trivial⟩ ?_
              rintro ρ ⟨z0, z6, z7, -⟩
              refine rg (r (ad (a := (i : Int)) (b := 1) ((i : Int) + 1) z7 rfl (by omega)) (r (mv rfl) (re ?_)))
              exact ag (i + 1) ⟨z0, z6, rfl, H1, ⟨by omega, name_step (by omega) hall (by unfold nameB; omega)⟩⟩ (by first | omega | (dsimp only; omega))
          · refine gn rfl rfl rfl (gn rfl rfl rfl (r (pk rfl rfl) (re (cf rfl (sk (be ?_))))))
            refine gen (fun ρ => ρ 0 = .string s ∧ ρ 6 = .int .i64 (s.size : Int) ∧ ρ 7 = .int .i64 (i : Int) ∧ True) ⟨y0, y6, y7, trivial⟩ ?_
            rintro ρ ⟨z0, z6, z7, -⟩
            refine rg (r (ad (a := (i : Int)) (b := 1) ((i : Int) + 1) z7 rfl (by omega)) (r (mv rfl) (re ?_)))
            exact ag (i + 1) ⟨z0, z6, rfl, H1, ⟨by omega, name_step (by omega) hall (by unfold nameB; omega)⟩⟩ (by first | omega | (dsimp only; omega))
        · refine gn rfl rfl rfl (gn rfl rfl rfl (r (pk rfl rfl) (r (mv rfl) (gn rfl rfl rfl (gn rfl rfl rfl (r (pk rfl rfl) (re (cf rfl (sk (be ?_))))))))))
          refine gen (fun ρ => ρ 0 = .string s ∧ ρ 6 = .int .i64 (s.size : Int) ∧ ρ 7 = .int .i64 (i : Int) ∧ True) ⟨y0, y6, y7, trivial⟩ ?_
          rintro ρ ⟨z0, z6, z7, -⟩
          refine rg (r (ad (a := (i : Int)) (b := 1) ((i : Int) + 1) z7 rfl (by omega)) (r (mv rfl) (re ?_)))
          exact ag (i + 1) ⟨z0, z6, rfl, H1, ⟨by omega, name_step (by omega) hall (by unfold nameB; omega)⟩⟩ (by first | omega | (dsimp only; omega))
      · refine gy rfl rfl rfl (r (mv rfl) (gy rfl rfl rfl (r (bi rfl rfl rfl) (gy rfl rfl rfl (r (pk rfl rfl) (r (pk rfl rfl) (r (mv rfl) ?_)))))))
        refine sp 27 rfl (fun h2 => ?_) (fun h2 => ?_)
        · refine gy rfl rfl rfl (r (mv rfl) (gy rfl rfl rfl (r (bi rfl rfl rfl) (r (pk rfl rfl) (r (mv rfl) ?_)))))
          refine spn 31 rfl (fun h3 => ?_) (fun h3 => ?_)
          · refine gy rfl rfl rfl (r (mv rfl) (gy rfl rfl rfl (r (bi rfl rfl rfl) (r (pk rfl rfl) (r (mv rfl) ?_)))))
            refine spn 35 rfl (fun h4 => ?_) (fun h4 => ?_)
            · refine gy rfl rfl rfl (r (mv rfl) (gy rfl rfl rfl (r (bi rfl rfl rfl) (r (pk rfl rfl) (re ?_)))))
              refine cpn rfl (fun h5 => ?_) (fun h5 => ?_)
              · refine sq ?_
                refine gen (fun ρ => ρ 0 = .string s ∧ ρ 6 = .int .i64 (s.size : Int) ∧ ρ 7 = .int .i64 (i : Int) ∧ True) ⟨y0, y6, y7, trivial⟩ ?_
                rintro ρ ⟨z0, z6, z7, -⟩
                refine rg (r (sa rfl) (re (rt ?_)))
                exact fin1 (v := .bool false) Tryd.results89 rfl ⟨congrArg Value.bool (decide_eq_false (name_no (i := i) (by omega) (by unfold nameB; omega))).symm, Hold.ch H1⟩
              · refine sk (be ?_)
                refine gen (fun ρ => ρ 0 = .string s ∧ ρ 6 = .int .i64 (s.size : Int) ∧ ρ 7 = .int .i64 (i : Int) ∧ True) ⟨y0, y6, y7, trivial⟩ ?_
                rintro ρ ⟨z0, z6, z7, -⟩
                refine rg (r (ad (a := (i : Int)) (b := 1) ((i : Int) + 1) z7 rfl (by omega)) (r (mv rfl) (re ?_)))
                exact ag (i + 1) ⟨z0, z6, rfl, H1, ⟨by omega, name_step (by omega) hall (by unfold nameB; omega)⟩⟩ (by first | omega | (dsimp only; omega))
            · refine gn rfl rfl rfl (gn rfl rfl rfl (r (pk rfl rfl) (re (cf rfl (sk (be ?_))))))
              refine gen (fun ρ => ρ 0 = .string s ∧ ρ 6 = .int .i64 (s.size : Int) ∧ ρ 7 = .int .i64 (i : Int) ∧ True) ⟨y0, y6, y7, trivial⟩ ?_
              rintro ρ ⟨z0, z6, z7, -⟩
              refine rg (r (ad (a := (i : Int)) (b := 1) ((i : Int) + 1) z7 rfl (by omega)) (r (mv rfl) (re ?_)))
              exact ag (i + 1) ⟨z0, z6, rfl, H1, ⟨by omega, name_step (by omega) hall (by unfold nameB; omega)⟩⟩ (by first | omega | (dsimp only; omega))
          · refine gn rfl rfl rfl (gn rfl rfl rfl (r (pk rfl rfl) (r (mv rfl) (gn rfl rfl rfl (gn rfl rfl rfl (r (pk rfl rfl) (re (cf rfl (sk (be ?_))))))))))
            refine gen (fun ρ => ρ 0 = .string s ∧ ρ 6 = .int .i64 (s.size : Int) ∧ ρ 7 = .int .i64 (i : Int) ∧ True) ⟨y0, y6, y7, trivial⟩ ?_
            rintro ρ ⟨z0, z6, z7, -⟩
            refine rg (r (ad (a := (i : Int)) (b := 1) ((i : Int) + 1) z7 rfl (by omega)) (r (mv rfl) (re ?_)))
            exact ag (i + 1) ⟨z0, z6, rfl, H1, ⟨by omega, name_step (by omega) hall (by unfold nameB; omega)⟩⟩ (by first | omega | (dsimp only; omega))
        · refine gn rfl rfl rfl (gn rfl rfl rfl (r (pk rfl rfl) (r (mv rfl) (gn rfl rfl rfl (gn rfl rfl rfl (r (pk rfl rfl) (r (mv rfl) (gn rfl rfl rfl (gn rfl rfl rfl (r (pk rfl rfl) (re (cf rfl (sk (be ?_))))))))))))))
          refine gen (fun ρ => ρ 0 = .string s ∧ ρ 6 = .int .i64 (s.size : Int) ∧ ρ 7 = .int .i64 (i : Int) ∧ True) ⟨y0, y6, y7, trivial⟩ ?_
          rintro ρ ⟨z0, z6, z7, -⟩
          refine rg (r (ad (a := (i : Int)) (b := 1) ((i : Int) + 1) z7 rfl (by omega)) (r (mv rfl) (re ?_)))
          exact ag (i + 1) ⟨z0, z6, rfl, H1, ⟨by omega, name_step (by omega) hall (by unfold nameB; omega)⟩⟩ (by first | omega | (dsimp only; omega))
    · refine gy rfl rfl rfl (r (mv rfl) (gy rfl rfl rfl (r (bi rfl rfl rfl) (r (pk rfl rfl) (r (mv rfl) ?_)))))
      refine sp 19 rfl (fun h1 => ?_) (fun h1 => ?_)
      · refine gy rfl rfl rfl (r (mv rfl) (gy rfl rfl rfl (r (bi rfl rfl rfl) (gy rfl rfl rfl (r (mv rfl) ?_)))))
        refine sp 22 rfl (fun h2 => ?_) (fun h2 => ?_)
        · refine gn rfl rfl rfl (gn rfl rfl rfl (gy rfl rfl rfl (r (pk rfl rfl) (r (pk rfl rfl) (r (mv rfl) (gy rfl rfl rfl (r (mv rfl) (gy rfl rfl rfl (r (bi rfl rfl rfl) (r (pk rfl rfl) (r (mv rfl) ?_)))))))))))
          refine spn 31 rfl (fun h3 => ?_) (fun h3 => ?_)
          · refine gy rfl rfl rfl (r (mv rfl) (gy rfl rfl rfl (r (bi rfl rfl rfl) (r (pk rfl rfl) (r (mv rfl) ?_)))))
            refine spn 35 rfl (fun h4 => ?_) (fun h4 => ?_)
            · refine gy rfl rfl rfl (r (mv rfl) (gy rfl rfl rfl (r (bi rfl rfl rfl) (r (pk rfl rfl) (re ?_)))))
              refine cpn rfl (fun h5 => ?_) (fun h5 => ?_)
              · refine sq ?_
                refine gen (fun ρ => ρ 0 = .string s ∧ ρ 6 = .int .i64 (s.size : Int) ∧ ρ 7 = .int .i64 (i : Int) ∧ True) ⟨y0, y6, y7, trivial⟩ ?_
                rintro ρ ⟨z0, z6, z7, -⟩
                refine rg (r (sa rfl) (re (rt ?_)))
                exact fin1 (v := .bool false) Tryd.results89 rfl ⟨congrArg Value.bool (decide_eq_false (name_no (i := i) (by omega) (by unfold nameB; omega))).symm, Hold.ch H1⟩
              · refine sk (be ?_)
                refine gen (fun ρ => ρ 0 = .string s ∧ ρ 6 = .int .i64 (s.size : Int) ∧ ρ 7 = .int .i64 (i : Int) ∧ True) ⟨y0, y6, y7, trivial⟩ ?_
                rintro ρ ⟨z0, z6, z7, -⟩
                refine rg (r (ad (a := (i : Int)) (b := 1) ((i : Int) + 1) z7 rfl (by omega)) (r (mv rfl) (re ?_)))
                exact ag (i + 1) ⟨z0, z6, rfl, H1, ⟨by omega, name_step (by omega) hall (by unfold nameB; omega)⟩⟩ (by first | omega | (dsimp only; omega))
            · refine gn rfl rfl rfl (gn rfl rfl rfl (r (pk rfl rfl) (re (cf rfl (sk (be ?_))))))
              refine gen (fun ρ => ρ 0 = .string s ∧ ρ 6 = .int .i64 (s.size : Int) ∧ ρ 7 = .int .i64 (i : Int) ∧ True) ⟨y0, y6, y7, trivial⟩ ?_
              rintro ρ ⟨z0, z6, z7, -⟩
              refine rg (r (ad (a := (i : Int)) (b := 1) ((i : Int) + 1) z7 rfl (by omega)) (r (mv rfl) (re ?_)))
              exact ag (i + 1) ⟨z0, z6, rfl, H1, ⟨by omega, name_step (by omega) hall (by unfold nameB; omega)⟩⟩ (by first | omega | (dsimp only; omega))
          · refine gn rfl rfl rfl (gn rfl rfl rfl (r (pk rfl rfl) (r (mv rfl) (gn rfl rfl rfl (gn rfl rfl rfl (r (pk rfl rfl) (re (cf rfl (sk (be ?_))))))))))
            refine gen (fun ρ => ρ 0 = .string s ∧ ρ 6 = .int .i64 (s.size : Int) ∧ ρ 7 = .int .i64 (i : Int) ∧ True) ⟨y0, y6, y7, trivial⟩ ?_
            rintro ρ ⟨z0, z6, z7, -⟩
            refine rg (r (ad (a := (i : Int)) (b := 1) ((i : Int) + 1) z7 rfl (by omega)) (r (mv rfl) (re ?_)))
            exact ag (i + 1) ⟨z0, z6, rfl, H1, ⟨by omega, name_step (by omega) hall (by unfold nameB; omega)⟩⟩ (by first | omega | (dsimp only; omega))
        · refine gy rfl rfl rfl (r (mv rfl) (gy rfl rfl rfl (r (bi rfl rfl rfl) (gy rfl rfl rfl (r (pk rfl rfl) (r (pk rfl rfl) (r (mv rfl) ?_)))))))
          refine sp 27 rfl (fun h3 => ?_) (fun h3 => ?_)
          · refine gy rfl rfl rfl (r (mv rfl) (gy rfl rfl rfl (r (bi rfl rfl rfl) (r (pk rfl rfl) (r (mv rfl) ?_)))))
            refine spn 31 rfl (fun h4 => ?_) (fun h4 => ?_)
            · refine gy rfl rfl rfl (r (mv rfl) (gy rfl rfl rfl (r (bi rfl rfl rfl) (r (pk rfl rfl) (r (mv rfl) ?_)))))
              refine spn 35 rfl (fun h5 => ?_) (fun h5 => ?_)
              · refine gy rfl rfl rfl (r (mv rfl) (gy rfl rfl rfl (r (bi rfl rfl rfl) (r (pk rfl rfl) (re ?_)))))
                refine cpn rfl (fun h6 => ?_) (fun h6 => ?_)
                · refine sq ?_
                  refine gen (fun ρ => ρ 0 = .string s ∧ ρ 6 = .int .i64 (s.size : Int) ∧ ρ 7 = .int .i64 (i : Int) ∧ True) ⟨y0, y6, y7, trivial⟩ ?_
                  rintro ρ ⟨z0, z6, z7, -⟩
                  refine rg (r (sa rfl) (re (rt ?_)))
                  exact fin1 (v := .bool false) Tryd.results89 rfl ⟨congrArg Value.bool (decide_eq_false (name_no (i := i) (by omega) (by unfold nameB; omega))).symm, Hold.ch H1⟩
                · refine sk (be ?_)
                  refine gen (fun ρ => ρ 0 = .string s ∧ ρ 6 = .int .i64 (s.size : Int) ∧ ρ 7 = .int .i64 (i : Int) ∧ True) ⟨y0, y6, y7, trivial⟩ ?_
                  rintro ρ ⟨z0, z6, z7, -⟩
                  refine rg (r (ad (a := (i : Int)) (b := 1) ((i : Int) + 1) z7 rfl (by omega)) (r (mv rfl) (re ?_)))
                  exact ag (i + 1) ⟨z0, z6, rfl, H1, ⟨by omega, name_step (by omega) hall (by unfold nameB; omega)⟩⟩ (by first | omega | (dsimp only; omega))
              · refine gn rfl rfl rfl (gn rfl rfl rfl (r (pk rfl rfl) (re (cf rfl (sk (be ?_))))))
                refine gen (fun ρ => ρ 0 = .string s ∧ ρ 6 = .int .i64 (s.size : Int) ∧ ρ 7 = .int .i64 (i : Int) ∧ True) ⟨y0, y6, y7, trivial⟩ ?_
                rintro ρ ⟨z0, z6, z7, -⟩
                refine rg (r (ad (a := (i : Int)) (b := 1) ((i : Int) + 1) z7 rfl (by omega)) (r (mv rfl) (re ?_)))
                exact ag (i + 1) ⟨z0, z6, rfl, H1, ⟨by omega, name_step (by omega) hall (by unfold nameB; omega)⟩⟩ (by first | omega | (dsimp only; omega))
            · refine gn rfl rfl rfl (gn rfl rfl rfl (r (pk rfl rfl) (r (mv rfl) (gn rfl rfl rfl (gn rfl rfl rfl (r (pk rfl rfl) (re (cf rfl (sk (be ?_))))))))))
              refine gen (fun ρ => ρ 0 = .string s ∧ ρ 6 = .int .i64 (s.size : Int) ∧ ρ 7 = .int .i64 (i : Int) ∧ True) ⟨y0, y6, y7, trivial⟩ ?_
              rintro ρ ⟨z0, z6, z7, -⟩
              refine rg (r (ad (a := (i : Int)) (b := 1) ((i : Int) + 1) z7 rfl (by omega)) (r (mv rfl) (re ?_)))
              exact ag (i + 1) ⟨z0, z6, rfl, H1, ⟨by omega, name_step (by omega) hall (by unfold nameB; omega)⟩⟩ (by first | omega | (dsimp only; omega))
          · refine gn rfl rfl rfl (gn rfl rfl rfl (r (pk rfl rfl) (r (mv rfl) (gn rfl rfl rfl (gn rfl rfl rfl (r (pk rfl rfl) (r (mv rfl) (gn rfl rfl rfl (gn rfl rfl rfl (r (pk rfl rfl) (re (cf rfl (sk (be ?_))))))))))))))
            refine gen (fun ρ => ρ 0 = .string s ∧ ρ 6 = .int .i64 (s.size : Int) ∧ ρ 7 = .int .i64 (i : Int) ∧ True) ⟨y0, y6, y7, trivial⟩ ?_
            rintro ρ ⟨z0, z6, z7, -⟩
            refine rg (r (ad (a := (i : Int)) (b := 1) ((i : Int) + 1) z7 rfl (by omega)) (r (mv rfl) (re ?_)))
            exact ag (i + 1) ⟨z0, z6, rfl, H1, ⟨by omega, name_step (by omega) hall (by unfold nameB; omega)⟩⟩ (by first | omega | (dsimp only; omega))
      · refine gn rfl rfl rfl (gn rfl rfl rfl (gn rfl rfl rfl (gu rfl rfl rfl (gu rfl rfl rfl (gn rfl rfl rfl (r (pk rfl rfl) (r (mv rfl) (gn rfl rfl rfl (gn rfl rfl rfl (r (pk rfl rfl) (r (mv rfl) (gn rfl rfl rfl (gn rfl rfl rfl (r (pk rfl rfl) (r (mv rfl) (gn rfl rfl rfl (gn rfl rfl rfl (r (pk rfl rfl) (re (cf rfl (sk (be ?_))))))))))))))))))))))
        refine gen (fun ρ => ρ 0 = .string s ∧ ρ 6 = .int .i64 (s.size : Int) ∧ ρ 7 = .int .i64 (i : Int) ∧ True) ⟨y0, y6, y7, trivial⟩ ?_
        rintro ρ ⟨z0, z6, z7, -⟩
        refine rg (r (ad (a := (i : Int)) (b := 1) ((i : Int) + 1) z7 rfl (by omega)) (r (mv rfl) (re ?_)))
        exact ag (i + 1) ⟨z0, z6, rfl, H1, ⟨by omega, name_step (by omega) hall (by unfold nameB; omega)⟩⟩ (by first | omega | (dsimp only; omega))
  · obtain rfl : i = s.size := by omega
    rw [List.take_of_length_le (by omega)] at hall
    refine ex rfl (sq (rg (r (mv y0) (r (lns Tryd.underlying9 rfl) (r (bi rfl rfl rfl) (r (mv rfl) ?_))))))
    refine sp 43 rfl (fun h1 => ?_) (fun h1 => ?_)
    · refine gy rfl rfl rfl (r (mv y0) (gy rfl rfl rfl (r (lns Tryd.underlying9 rfl) (gy rfl rfl rfl (r (bi rfl rfl rfl) (r (pk rfl rfl) (r (sa rfl) (re (rt ?_)))))))))
      have hD : decide ((s.size : Int) ≤ 16) = decide (okName (nums8 s)) := by first | exact decide_eq_decide.2 ⟨fun h => ⟨hall, by omega, by omega⟩, fun h => by have := h.2; omega⟩ | exact (decide_eq_false (fun h => by have := h.2; omega)).symm
      exact fin1 (v := .bool (decide ((s.size : Int) ≤ 16))) Tryd.results89 rfl ⟨congrArg Value.bool hD, Hold.ch H1⟩
    · refine gn rfl rfl rfl (gn rfl rfl rfl (gn rfl rfl rfl (r (pk rfl rfl) (r (sa rfl) (re (rt ?_))))))
      have hD : false = decide (okName (nums8 s)) := by first | exact decide_eq_decide.2 ⟨fun h => ⟨hall, by omega, by omega⟩, fun h => by have := h.2; omega⟩ | exact (decide_eq_false (fun h => by have := h.2; omega)).symm
      exact fin1 (v := .bool false) Tryd.results89 rfl ⟨congrArg Value.bool hD, Hold.ch H1⟩
/-- An inode that is good; its bytes. -/
abbrev inoOk (nm : List Int) (sz : Int) (ls : List Int) : Prop := okName nm ∧ 0 ≤ sz ∧ sz ≤ 1408 ∧ (ls.length : Int) = (sz + 63) / 64 ∧ ∀ x, x ∈ ls → 1 ≤ x ∧ x ≤ 65535
def inoV (nm : List Int) (sz : Int) (ls : List Int) : List (Int × Int) := (2, sz) :: ls.map (fun x => (2, x))
def encI (nm : List Int) (sz : Int) (ls : List Int) : List Int := (nm ++ List.replicate (16 - nm.length) 0) ++ flat (inoV nm sz ls) ++ List.replicate (48 - (flat (inoV nm sz ls)).length) 0
def encIno (nm : List Int) (sz : Int) (ls : List Int) : List Int := if inoOk nm sz ls then encI nm sz ls else []
theorem inoV_len {nm : List Int} {sz : Int} {ls : List Int} : (flat (inoV nm sz ls)).length = 2 + 2 * ls.length := by
  simp only [flat, inoV, List.flatMap_cons, List.length_append, big_len]
  congr 1
  induction ls with
  | nil => rfl
  | cons x xs ih => simp only [List.map_cons, List.flatMap_cons, List.length_append, big_len, List.length_cons]; omega
theorem encI_len {nm : List Int} {sz : Int} {ls : List Int} (h : inoOk nm sz ls) : (encI nm sz ls).length = 64 := by
  obtain ⟨⟨_, h1, h2⟩, h3, h4, h5, _⟩ := h
  have := inoV_len (nm := nm) (sz := sz) (ls := ls)
  simp only [encI, List.length_append, List.length_replicate]
  omega
theorem lids_step {s : List Int} {i : Nat} (hi : i < s.length) (h : ∀ b, b ∈ s.take i → 1 ≤ b ∧ b ≤ 65535) (hb : 1 ≤ s[i] ∧ s[i] ≤ 65535) : ∀ b, b ∈ s.take (i + 1) → 1 ≤ b ∧ b ≤ 65535 := by
  intro b hb'
  rw [List.take_succ_eq_append_getElem hi, List.mem_append, List.mem_singleton] at hb'
  rcases hb' with h' | rfl
  · exact h b h'
  · exact hb
theorem dataBlocks {w : World} {n : Int} (hn : 0 ≤ n ∧ n ≤ 1000000000) : Ret Tryd.prog 45 #[.int .i64 n] w (fun r w' => r = .int .i64 ((n + 63) / 64) ∧ Ch [] w w') := by
  refine enter Tryd.func45 rfl Tryd.ntmps45 (by rfl) (by rfl) ?_
  have H0 : Hold w [] w [] := Hold.start w
  refine sq (rg (r (sa rfl) (re (sq (rg (r (mv rfl) (r (ad (a := n) (b := 64) (n + 64) rfl rfl (by omega)) (r (sb (a := n + 64) (b := 1) ((n + 64) - 1) rfl rfl (by omega)) (r (dv (a := (n + 64) - 1) (b := 64) ((n + 63) / 64) rfl rfl ⟨by omega, by rw [show n + 64 - 1 = n + 63 by omega, Int.tdiv_eq_ediv_of_nonneg (by omega)], by omega, by omega⟩) (r (sa rfl) (re (rt ?_))))))))))))
  exact fin1 (v := .int .i64 ((n + 63) / 64)) Tryd.results45 rfl ⟨rfl, Hold.ch H0⟩
theorem l2ValidInode {w : World} {F : List Nat} {s : ByteArray} {z : Int} {v : Value} {xs : List Int} (hs : s.size ≤ 9223372036854775807) (hx : i64.R w F v xs) (lx : xs.length ≤ 1000000000) : Ret Tryd.prog 53 #[.agg #[.string s, .int .i64 z, v]] w (fun r w' => r = .bool (decide (inoOk (nums8 s) z xs)) ∧ Ch [] w w') := by
  refine enter Tryd.func53 rfl Tryd.ntmps53 (by rfl) (by rfl) ?_
  have H0 : Hold w [] w [] := Hold.start w
  refine sq (rg (ef (xbx (t := 25) rfl rfl) ?_))
  rintro _ w1 ⟨g1, e1, rfl, -, b1, c1⟩
  have H1 : Hold w [] w1 [rB g1 25 ([.string s, .int .i64 z, v])] := Hold.newB H0 e1 b1 c1
  clear H0
  clear e1 b1 c1
  refine r (sa rfl) (re (sq (sq ?_)))
  refine rde mixed ?_
  intro w2 c2
  have H2 : Hold w [] w2 [rB g1 25 ([.string s, .int .i64 z, v])] := Hold.t H1 c2
  clear H1
  clear c2
  have H3d0 : Hold w2 [] w2 [] := Hold.start w2
  refine ⟨fun w' => Ch [] w2 w', Ch.refl _ _, ?_⟩
  have b4 : B w2 g1 25 ([.string s, .int .i64 z, v]) := Hold.blk H2 0 rfl
  refine edt 0 rfl (by kernel_rfl) (fun w' hS => fa Tryd.underlying25 rfl ti9 rfl rfl) (edt 1 rfl (by kernel_rfl) (fun w' hS => ldb Tryd.underlying9 rfl rfl (hS.b0 b4) rfl) (ed1 2 (by kernel_rfl) <| euc rfl go92 (ac rfl an) (spec_ValidName hs) ?_))
  rintro r wv ⟨rfl, cv⟩
  have H3d : Hold w2 [] wv [] := Hold.t H3d0 cv
  clear H3d0
  clear cv
  refine ⟨.inr (Hold.ch H3d), ?_⟩
  refine edt 3 rfl (by kernel_rfl) (fun w' hS => nt rfl) (edt 4 rfl (by kernel_rfl) (fun w' hS => mv rfl) ?_)
  refine spne 8 rfl (fun h1 => ?_) (fun h1 => ?_)
  · refine edtn 5 rfl (by kernel_rfl) rfl rfl rfl (edtn 6 rfl (by kernel_rfl) rfl rfl rfl (edtn 7 rfl (by kernel_rfl) rfl rfl rfl (edt 8 rfl (by kernel_rfl) (fun w' hS => pk rfl rfl) (edt 9 rfl (by kernel_rfl) (fun w' hS => mv rfl) (edtn 10 rfl (by kernel_rfl) rfl rfl rfl (edtn 11 rfl (by kernel_rfl) rfl rfl rfl (edtn 12 rfl (by kernel_rfl) rfl rfl rfl (edt 13 rfl (by kernel_rfl) (fun w' hS => pk rfl rfl) (edt 14 rfl (by kernel_rfl) (fun w' hS => mv rfl) (edtn 15 rfl (by kernel_rfl) rfl rfl rfl (edtn 16 rfl (by kernel_rfl) rfl rfl rfl (edtn 17 rfl (by kernel_rfl) rfl rfl rfl (edtn 18 rfl (by kernel_rfl) rfl rfl rfl (edtn 19 rfl (by kernel_rfl) rfl rfl rfl (edtn 20 rfl (by kernel_rfl) rfl rfl rfl (edtn 21 rfl (by kernel_rfl) rfl rfl rfl ?_))))))))))))))))
    have H4 : Hold w [] wv [rB g1 25 ([.string s, .int .i64 z, v])] := Hold.news H2 H3d
    clear H3d H2
    refine ed1 22 (by kernel_rfl) <| eur rfl (pk rfl rfl) (.inl (by kernel_rfl)) ?_
    refine edd (by kernel_rfl) ?_
    refine ct rfl (sq ?_)
    refine gen (fun ρ => ρ 1 = .pointer (some ⟨g1, 0, none⟩) ∧ ρ 2 = .bool false ∧ True) ⟨rfl, rfl, trivial⟩ ?_
    rintro ρ ⟨z1, z2, -⟩
    refine rg (r (sa rfl) (re (rt ?_)))
    exact fin1 (v := .bool false) Tryd.results53 rfl ⟨congrArg Value.bool (decide_eq_false (fun e => h1 e.1)).symm, Hold.ch H4⟩
  · refine edty 5 rfl (by kernel_rfl) rfl rfl rfl (fun w' hS => fa Tryd.underlying25 rfl ti2 rfl rfl) (edty 6 rfl (by kernel_rfl) rfl rfl rfl (fun w' hS => ldb Tryd.underlying2 rfl rfl (hS.b0 b4) rfl) (edty 7 rfl (by kernel_rfl) rfl rfl rfl (fun w' hS => bi rfl rfl rfl) (edt 8 rfl (by kernel_rfl) (fun w' hS => pk rfl rfl) (edt 9 rfl (by kernel_rfl) (fun w' hS => mv rfl) ?_))))
    refine spe 13 rfl (fun h2 => ?_) (fun h2 => ?_)
    · refine edtn 10 rfl (by kernel_rfl) rfl rfl rfl (edtn 11 rfl (by kernel_rfl) rfl rfl rfl (edtn 12 rfl (by kernel_rfl) rfl rfl rfl (edt 13 rfl (by kernel_rfl) (fun w' hS => pk rfl rfl) (edt 14 rfl (by kernel_rfl) (fun w' hS => mv rfl) (edtn 15 rfl (by kernel_rfl) rfl rfl rfl (edtn 16 rfl (by kernel_rfl) rfl rfl rfl (edtn 17 rfl (by kernel_rfl) rfl rfl rfl (edtn 18 rfl (by kernel_rfl) rfl rfl rfl (edtn 19 rfl (by kernel_rfl) rfl rfl rfl (edtn 20 rfl (by kernel_rfl) rfl rfl rfl (edtn 21 rfl (by kernel_rfl) rfl rfl rfl ?_)))))))))))
      have H4 : Hold w [] wv [rB g1 25 ([.string s, .int .i64 z, v])] := Hold.news H2 H3d
      clear H3d H2
      refine ed1 22 (by kernel_rfl) <| eur rfl (pk rfl rfl) (.inl (by kernel_rfl)) ?_
      refine edd (by kernel_rfl) ?_
      refine ct rfl (sq ?_)
      refine gen (fun ρ => ρ 1 = .pointer (some ⟨g1, 0, none⟩) ∧ ρ 2 = .bool false ∧ True) ⟨rfl, rfl, trivial⟩ ?_
      rintro ρ ⟨z1, z2, -⟩
      refine rg (r (sa rfl) (re (rt ?_)))
      exact fin1 (v := .bool false) Tryd.results53 rfl ⟨congrArg Value.bool (decide_eq_false (fun e => by have := e.2.1; omega)).symm, Hold.ch H4⟩
    · refine edty 10 rfl (by kernel_rfl) rfl rfl rfl (fun w' hS => fa Tryd.underlying25 rfl ti2 rfl rfl) (edty 11 rfl (by kernel_rfl) rfl rfl rfl (fun w' hS => ldb Tryd.underlying2 rfl rfl (hS.b0 b4) rfl) (edty 12 rfl (by kernel_rfl) rfl rfl rfl (fun w' hS => bi rfl rfl rfl) (edt 13 rfl (by kernel_rfl) (fun w' hS => pk rfl rfl) (edt 14 rfl (by kernel_rfl) (fun w' hS => mv rfl) ?_))))
      refine spe 18 rfl (fun h3 => ?_) (fun h3 => ?_)
      · refine edtn 15 rfl (by kernel_rfl) rfl rfl rfl (edtn 16 rfl (by kernel_rfl) rfl rfl rfl (edtn 17 rfl (by kernel_rfl) rfl rfl rfl (edtn 18 rfl (by kernel_rfl) rfl rfl rfl (edtn 19 rfl (by kernel_rfl) rfl rfl rfl (edtn 20 rfl (by kernel_rfl) rfl rfl rfl (edtn 21 rfl (by kernel_rfl) rfl rfl rfl ?_))))))
        have H4 : Hold w [] wv [rB g1 25 ([.string s, .int .i64 z, v])] := Hold.news H2 H3d
        clear H3d H2
        refine ed1 22 (by kernel_rfl) <| eur rfl (pk rfl rfl) (.inl (by kernel_rfl)) ?_
        refine edd (by kernel_rfl) ?_
        refine ct rfl (sq ?_)
        refine gen (fun ρ => ρ 1 = .pointer (some ⟨g1, 0, none⟩) ∧ ρ 2 = .bool false ∧ True) ⟨rfl, rfl, trivial⟩ ?_
        rintro ρ ⟨z1, z2, -⟩
        refine rg (r (sa rfl) (re (rt ?_)))
        exact fin1 (v := .bool false) Tryd.results53 rfl ⟨congrArg Value.bool (decide_eq_false (fun e => by have := e.2.2.1; omega)).symm, Hold.ch H4⟩
      · refine edty 15 rfl (by kernel_rfl) rfl rfl rfl (fun w' hS => fa Tryd.underlying25 rfl ti23 rfl rfl) (edty 16 rfl (by kernel_rfl) rfl rfl rfl (fun w' hS => ldb Tryd.underlying23 rfl rfl (hS.b0 b4) rfl) (edty 17 rfl (by kernel_rfl) rfl rfl rfl (fun w' hS => ln Tryd.underlying23 rfl (((hx.t (Hold.ch H2)).t hS))) (edty 18 rfl (by kernel_rfl) rfl rfl rfl (fun w' hS => fa Tryd.underlying25 rfl ti2 rfl rfl) (edty 19 rfl (by kernel_rfl) rfl rfl rfl (fun w' hS => ldb Tryd.underlying2 rfl rfl (hS.b0 b4) rfl) (ed1 20 (by kernel_rfl) <| eucg rfl rfl rfl rfl go39 (ac rfl an) (l2Blocks (n := z) (by omega)) ?_)))))
        rintro r wb ⟨rfl, cb⟩
        have H4d : Hold w2 [] wb [] := Hold.t H3d cb
        clear H3d
        clear cb
        refine ⟨.inr (Hold.ch H4d), ?_⟩
        refine edty 21 rfl (by kernel_rfl) rfl rfl rfl (fun w' hS => bi rfl rfl rfl) ?_
        have H5 : Hold w [] wb [rB g1 25 ([.string s, .int .i64 z, v])] := Hold.news H2 H4d
        clear H4d H2
        refine ed1 22 (by kernel_rfl) <| eur rfl (pk rfl rfl) (.inl (by kernel_rfl)) ?_
        refine edd (by kernel_rfl) ?_
        refine cpn rfl (fun h4 => ?_) (fun h4 => ?_)
        · refine sq ?_
          refine gen (fun ρ => ρ 1 = .pointer (some ⟨g1, 0, none⟩) ∧ ρ 2 = .bool false ∧ True) ⟨rfl, rfl, trivial⟩ ?_
          rintro ρ ⟨z1, z2, -⟩
          refine rg (r (sa rfl) (re (rt ?_)))
          exact fin1 (v := .bool false) Tryd.results53 rfl ⟨congrArg Value.bool (decide_eq_false (fun e => h4 e.2.2.2.1)).symm, Hold.ch H5⟩
        · have h1' : okName (nums8 s) := by simpa using h1
          have h4' : (xs.length : Int) = (z + 63) / 64 := by omega
          refine sk (sq (sq ?_))
          refine gen (fun ρ => ρ 1 = .pointer (some ⟨g1, 0, none⟩) ∧ ρ 2 = .bool false ∧ True) ⟨rfl, rfl, trivial⟩ ?_
          rintro ρ ⟨z1, z2, -⟩
          refine rg (r (sa rfl) (re (bl ?_)))
          refine lp (α := Nat) (fun i ρ w' => ρ 1 = .pointer (some ⟨g1, 0, none⟩) ∧ ρ 3 = .int .i64 (i : Int) ∧ Hold w [] w' [rB g1 25 ([.string s, .int .i64 z, v])] ∧ i ≤ xs.length ∧ ∀ b, b ∈ xs.take i → 1 ≤ b ∧ b ≤ 65535) (fun i => xs.length - i) 0 ?_ ?_
          · exact ⟨z1, rfl, H5, ⟨by omega, by simp⟩⟩
          clear H5
          rintro i ρ w506 ⟨y1, y3, H6, ⟨hi, hall⟩⟩
          have b7 : B w506 g1 25 ([.string s, .int .i64 z, v]) := Hold.blk H6 0 rfl
          refine sq (sq (rg (r (mv y3) (r (fa Tryd.underlying25 rfl ti23 rfl y1) (r (ldb Tryd.underlying23 rfl rfl b7 rfl) (r (ln Tryd.underlying23 rfl ((hx.t (Hold.ch H6)))) (r (bi rfl rfl rfl) (re ?_))))))))
          refine cp rfl (fun h => ?_) (fun h => ?_)
          · have hi' : i < xs.length := by omega
            refine sk (sq (bl (sq (rg (r (fa Tryd.underlying25 rfl ti23 rfl y1) (r (ldb Tryd.underlying23 rfl rfl b7 rfl) (r (mv y3) ?_)))))))
            obtain ⟨c37_8, ad37_8, k37_8, e37_8, p37_8⟩ := Kd.R.place hx i (by omega)
            refine r (ix (j := i) Tryd.underlying23 ti2 e37_8 rfl (by omega)) (r (ld Tryd.underlying2 rfl rfl (Ch.cell (Hold.ch H6) p37_8.cell)) (r (bi rfl rfl rfl) (r (mv rfl) ?_)))
            refine sp 40 rfl (fun h5 => ?_) (fun h5 => ?_)
            · refine gn rfl rfl rfl (gn rfl rfl rfl (gn rfl rfl rfl (gn rfl rfl rfl (gn rfl rfl rfl (gn rfl rfl rfl (r (pk rfl rfl) (re (ct rfl (sq ?_)))))))))
              refine gen (fun ρ => ρ 1 = .pointer (some ⟨g1, 0, none⟩) ∧ ρ 3 = .int .i64 (i : Int) ∧ True) ⟨y1, y3, trivial⟩ ?_
              rintro ρ ⟨z1, z3, -⟩
              refine rg (r (sa rfl) (re (rt ?_)))
              exact fin1 (v := .bool false) Tryd.results53 rfl ⟨congrArg Value.bool (decide_eq_false (fun e => by have := e.2.2.2.2 _ (List.getElem_mem hi'); omega)).symm, Hold.ch H6⟩
            · refine gy rfl rfl rfl (r (fa Tryd.underlying25 rfl ti23 rfl y1) (gy rfl rfl rfl (r (ldb Tryd.underlying23 rfl rfl b7 rfl) (gy rfl rfl rfl (r (mv y3) (gy rfl rfl rfl ?_))))))
              obtain ⟨c44_9, ad44_9, k44_9, e44_9, p44_9⟩ := Kd.R.place hx i (by omega)
              refine r (ix (j := i) Tryd.underlying23 ti2 e44_9 rfl (by omega)) (gy rfl rfl rfl (r (ld Tryd.underlying2 rfl rfl (Ch.cell (Hold.ch H6) p44_9.cell)) (gy rfl rfl rfl (r (bi rfl rfl rfl) (r (pk rfl rfl) (re ?_))))))
              refine cp rfl (fun h6 => ?_) (fun h6 => ?_)
              · refine sq ?_
                refine gen (fun ρ => ρ 1 = .pointer (some ⟨g1, 0, none⟩) ∧ ρ 3 = .int .i64 (i : Int) ∧ True) ⟨y1, y3, trivial⟩ ?_
                rintro ρ ⟨z1, z3, -⟩
                refine rg (r (sa rfl) (re (rt ?_)))
                exact fin1 (v := .bool false) Tryd.results53 rfl ⟨congrArg Value.bool (decide_eq_false (fun e => by have := e.2.2.2.2 _ (List.getElem_mem hi'); omega)).symm, Hold.ch H6⟩
              · refine sk (be ?_)
                refine gen (fun ρ => ρ 1 = .pointer (some ⟨g1, 0, none⟩) ∧ ρ 3 = .int .i64 (i : Int) ∧ True) ⟨y1, y3, trivial⟩ ?_
                rintro ρ ⟨z1, z3, -⟩
                refine rg (r (mv z3) (r (ad (a := (i : Int)) (b := 1) ((i : Int) + 1) rfl rfl (by omega)) (r (sa rfl) (re ?_))))
                exact ag (i + 1) ⟨z1, rfl, H6, ⟨by omega, lids_step hi' hall (by omega)⟩⟩ (by first | omega | (dsimp only; omega))
          · obtain rfl : i = xs.length := by omega
            rw [List.take_length] at hall
            refine ex rfl (sq (rg (r (sa rfl) (re (rt ?_)))))
            exact fin1 (v := .bool true) Tryd.results53 rfl ⟨congrArg Value.bool (decide_eq_true ⟨h1', by omega, by omega, h4', hall⟩).symm, Hold.ch H6⟩
theorem Inode_valid {w : World} {F : List Nat} {s : ByteArray} {z : Int} {v : Value} {xs : List Int} (hs : s.size ≤ 9223372036854775807) (hx : i64.R w F v xs) (lx : xs.length ≤ 1000000000) : Ret Tryd.prog 46 #[.agg #[.string s, .int .i64 z, v]] w (fun r w' => r = .bool (decide (inoOk (nums8 s) z xs)) ∧ Ch [] w w') := by
  refine enter Tryd.func46 rfl Tryd.ntmps46 (by rfl) (by rfl) ?_
  have H0 : Hold w [] w [] := Hold.start w
  refine sq (rg (ef (xbx (t := 25) rfl rfl) ?_))
  rintro _ w1 ⟨g1, e1, rfl, -, b1, c1⟩
  have H1 : Hold w [] w1 [rB g1 25 ([.string s, .int .i64 z, v])] := Hold.newB H0 e1 b1 c1
  clear H0
  clear e1 b1 c1
  refine r (sa rfl) (re (sq (sq ?_)))
  refine rde mixed ?_
  intro w2 c2
  have H2 : Hold w [] w2 [rB g1 25 ([.string s, .int .i64 z, v])] := Hold.t H1 c2
  clear H1
  clear c2
  have H3d0 : Hold w2 [] w2 [] := Hold.start w2
  refine ⟨fun w' => Ch [] w2 w', Ch.refl _ _, ?_⟩
  have b4 : B w2 g1 25 ([.string s, .int .i64 z, v]) := Hold.blk H2 0 rfl
  refine edt 0 rfl (by kernel_rfl) (fun w' hS => fa Tryd.underlying25 rfl ti9 rfl rfl) (edt 1 rfl (by kernel_rfl) (fun w' hS => ldb Tryd.underlying9 rfl rfl (hS.b0 b4) rfl) (ed1 2 (by kernel_rfl) <| euc rfl go89 (ac rfl an) (impl_ValidName hs) ?_))
  rintro r wv ⟨rfl, cv⟩
  have H3d : Hold w2 [] wv [] := Hold.t H3d0 cv
  clear H3d0
  clear cv
  refine ⟨.inr (Hold.ch H3d), ?_⟩
  refine edt 3 rfl (by kernel_rfl) (fun w' hS => nt rfl) (edt 4 rfl (by kernel_rfl) (fun w' hS => mv rfl) ?_)
  refine spne 9 rfl (fun h1 => ?_) (fun h1 => ?_)
  · refine edtn 5 rfl (by kernel_rfl) rfl rfl rfl (edtn 6 rfl (by kernel_rfl) rfl rfl rfl (edtn 7 rfl (by kernel_rfl) rfl rfl rfl (edt 8 rfl (by kernel_rfl) (fun w' hS => pk rfl rfl) (edt 9 rfl (by kernel_rfl) (fun w' hS => mv rfl) (edtn 10 rfl (by kernel_rfl) rfl rfl rfl (edtn 11 rfl (by kernel_rfl) rfl rfl rfl (edtn 12 rfl (by kernel_rfl) rfl rfl rfl (edt 13 rfl (by kernel_rfl) (fun w' hS => pk rfl rfl) (edt 14 rfl (by kernel_rfl) (fun w' hS => mv rfl) (edtn 15 rfl (by kernel_rfl) rfl rfl rfl (edtn 16 rfl (by kernel_rfl) rfl rfl rfl (edtn 17 rfl (by kernel_rfl) rfl rfl rfl (edtn 18 rfl (by kernel_rfl) rfl rfl rfl (edtn 19 rfl (by kernel_rfl) rfl rfl rfl (edtn 20 rfl (by kernel_rfl) rfl rfl rfl (edtn 21 rfl (by kernel_rfl) rfl rfl rfl ?_))))))))))))))))
    have H4 : Hold w [] wv [rB g1 25 ([.string s, .int .i64 z, v])] := Hold.news H2 H3d
    clear H3d H2
    refine ed1 22 (by kernel_rfl) <| eur rfl (pk rfl rfl) (.inl (by kernel_rfl)) ?_
    refine edd (by kernel_rfl) ?_
    refine ct rfl (sq ?_)
    refine gen (fun ρ => ρ 1 = .pointer (some ⟨g1, 0, none⟩) ∧ ρ 2 = .bool false ∧ True) ⟨rfl, rfl, trivial⟩ ?_
    rintro ρ ⟨z1, z2, -⟩
    refine rg (r (sa rfl) (re (rt ?_)))
    exact fin1 (v := .bool false) Tryd.results46 rfl ⟨congrArg Value.bool (decide_eq_false (fun e => h1 e.1)).symm, Hold.ch H4⟩
  · refine edty 5 rfl (by kernel_rfl) rfl rfl rfl (fun w' hS => fa Tryd.underlying25 rfl ti2 rfl rfl) (edty 6 rfl (by kernel_rfl) rfl rfl rfl (fun w' hS => ldb Tryd.underlying2 rfl rfl (hS.b0 b4) rfl) (edty 7 rfl (by kernel_rfl) rfl rfl rfl (fun w' hS => bi rfl rfl rfl) (edt 8 rfl (by kernel_rfl) (fun w' hS => pk rfl rfl) (edt 9 rfl (by kernel_rfl) (fun w' hS => mv rfl) ?_))))
    refine spe 14 rfl (fun h2 => ?_) (fun h2 => ?_)
    · refine edtn 10 rfl (by kernel_rfl) rfl rfl rfl (edtn 11 rfl (by kernel_rfl) rfl rfl rfl (edtn 12 rfl (by kernel_rfl) rfl rfl rfl (edt 13 rfl (by kernel_rfl) (fun w' hS => pk rfl rfl) (edt 14 rfl (by kernel_rfl) (fun w' hS => mv rfl) (edtn 15 rfl (by kernel_rfl) rfl rfl rfl (edtn 16 rfl (by kernel_rfl) rfl rfl rfl (edtn 17 rfl (by kernel_rfl) rfl rfl rfl (edtn 18 rfl (by kernel_rfl) rfl rfl rfl (edtn 19 rfl (by kernel_rfl) rfl rfl rfl (edtn 20 rfl (by kernel_rfl) rfl rfl rfl (edtn 21 rfl (by kernel_rfl) rfl rfl rfl ?_)))))))))))
      have H4 : Hold w [] wv [rB g1 25 ([.string s, .int .i64 z, v])] := Hold.news H2 H3d
      clear H3d H2
      refine ed1 22 (by kernel_rfl) <| eur rfl (pk rfl rfl) (.inl (by kernel_rfl)) ?_
      refine edd (by kernel_rfl) ?_
      refine ct rfl (sq ?_)
      refine gen (fun ρ => ρ 1 = .pointer (some ⟨g1, 0, none⟩) ∧ ρ 2 = .bool false ∧ True) ⟨rfl, rfl, trivial⟩ ?_
      rintro ρ ⟨z1, z2, -⟩
      refine rg (r (sa rfl) (re (rt ?_)))
      exact fin1 (v := .bool false) Tryd.results46 rfl ⟨congrArg Value.bool (decide_eq_false (fun e => by have := e.2.1; omega)).symm, Hold.ch H4⟩
    · refine edty 10 rfl (by kernel_rfl) rfl rfl rfl (fun w' hS => fa Tryd.underlying25 rfl ti2 rfl rfl) (edty 11 rfl (by kernel_rfl) rfl rfl rfl (fun w' hS => ldb Tryd.underlying2 rfl rfl (hS.b0 b4) rfl) (edty 12 rfl (by kernel_rfl) rfl rfl rfl (fun w' hS => bi rfl rfl rfl) (edt 13 rfl (by kernel_rfl) (fun w' hS => pk rfl rfl) (edt 14 rfl (by kernel_rfl) (fun w' hS => mv rfl) ?_))))
      refine spe 19 rfl (fun h3 => ?_) (fun h3 => ?_)
      · refine edtn 15 rfl (by kernel_rfl) rfl rfl rfl (edtn 16 rfl (by kernel_rfl) rfl rfl rfl (edtn 17 rfl (by kernel_rfl) rfl rfl rfl (edtn 18 rfl (by kernel_rfl) rfl rfl rfl (edtn 19 rfl (by kernel_rfl) rfl rfl rfl (edtn 20 rfl (by kernel_rfl) rfl rfl rfl (edtn 21 rfl (by kernel_rfl) rfl rfl rfl ?_))))))
        have H4 : Hold w [] wv [rB g1 25 ([.string s, .int .i64 z, v])] := Hold.news H2 H3d
        clear H3d H2
        refine ed1 22 (by kernel_rfl) <| eur rfl (pk rfl rfl) (.inl (by kernel_rfl)) ?_
        refine edd (by kernel_rfl) ?_
        refine ct rfl (sq ?_)
        refine gen (fun ρ => ρ 1 = .pointer (some ⟨g1, 0, none⟩) ∧ ρ 2 = .bool false ∧ True) ⟨rfl, rfl, trivial⟩ ?_
        rintro ρ ⟨z1, z2, -⟩
        refine rg (r (sa rfl) (re (rt ?_)))
        exact fin1 (v := .bool false) Tryd.results46 rfl ⟨congrArg Value.bool (decide_eq_false (fun e => by have := e.2.2.1; omega)).symm, Hold.ch H4⟩
      · refine edty 15 rfl (by kernel_rfl) rfl rfl rfl (fun w' hS => fa Tryd.underlying25 rfl ti23 rfl rfl) (edty 16 rfl (by kernel_rfl) rfl rfl rfl (fun w' hS => ldb Tryd.underlying23 rfl rfl (hS.b0 b4) rfl) (edty 17 rfl (by kernel_rfl) rfl rfl rfl (fun w' hS => ln Tryd.underlying23 rfl (((hx.t (Hold.ch H2)).t hS))) (edty 18 rfl (by kernel_rfl) rfl rfl rfl (fun w' hS => fa Tryd.underlying25 rfl ti2 rfl rfl) (edty 19 rfl (by kernel_rfl) rfl rfl rfl (fun w' hS => ldb Tryd.underlying2 rfl rfl (hS.b0 b4) rfl) (ed1 20 (by kernel_rfl) <| eucg rfl rfl rfl rfl go45 (ac rfl an) (dataBlocks (n := z) (by omega)) ?_)))))
        rintro r wb ⟨rfl, cb⟩
        have H4d : Hold w2 [] wb [] := Hold.t H3d cb
        clear H3d
        clear cb
        refine ⟨.inr (Hold.ch H4d), ?_⟩
        refine edty 21 rfl (by kernel_rfl) rfl rfl rfl (fun w' hS => bi rfl rfl rfl) ?_
        have H5 : Hold w [] wb [rB g1 25 ([.string s, .int .i64 z, v])] := Hold.news H2 H4d
        clear H4d H2
        refine ed1 22 (by kernel_rfl) <| eur rfl (pk rfl rfl) (.inl (by kernel_rfl)) ?_
        refine edd (by kernel_rfl) ?_
        refine cpn rfl (fun h4 => ?_) (fun h4 => ?_)
        · refine sq ?_
          refine gen (fun ρ => ρ 1 = .pointer (some ⟨g1, 0, none⟩) ∧ ρ 2 = .bool false ∧ True) ⟨rfl, rfl, trivial⟩ ?_
          rintro ρ ⟨z1, z2, -⟩
          refine rg (r (sa rfl) (re (rt ?_)))
          exact fin1 (v := .bool false) Tryd.results46 rfl ⟨congrArg Value.bool (decide_eq_false (fun e => h4 e.2.2.2.1)).symm, Hold.ch H5⟩
        · have h1' : okName (nums8 s) := by simpa using h1
          have h4' : (xs.length : Int) = (z + 63) / 64 := by omega
          refine sk (sq (sq ?_))
          refine gen (fun ρ => ρ 1 = .pointer (some ⟨g1, 0, none⟩) ∧ ρ 2 = .bool false ∧ True) ⟨rfl, rfl, trivial⟩ ?_
          rintro ρ ⟨z1, z2, -⟩
          have b7 : B wb g1 25 ([.string s, .int .i64 z, v]) := Hold.blk H5 0 rfl
          refine rg (r (fa Tryd.underlying25 rfl ti23 rfl z1) (r (ldb Tryd.underlying23 rfl rfl b7 rfl) (r (ln Tryd.underlying23 rfl ((hx.t (Hold.ch H5)))) (r (mv rfl) (re (bl ?_))))))
          refine lp (α := Nat) (fun i ρ w' => ρ 29 = v ∧ ρ 30 = .int .i64 (xs.length : Int) ∧ ρ 31 = .int .i64 (i : Int) ∧ Hold w [] w' [rB g1 25 ([.string s, .int .i64 z, v])] ∧ i ≤ xs.length ∧ ∀ b, b ∈ xs.take i → 1 ≤ b ∧ b ≤ 65535) (fun i => xs.length - i) 0 ?_ ?_
          · exact ⟨rfl, rfl, rfl, H5, ⟨by omega, by simp⟩⟩
          clear H5
          rintro i ρ w506 ⟨y29, y30, y31, H6, ⟨hi, hall⟩⟩
          refine sq (rg (r (bi y31 y30 rfl) (re (sq ?_))))
          refine cp rfl (fun h => ?_) (fun h => ?_)
          · have hi' : i < xs.length := by omega
            refine sk (sq (bl (sq (rg ?_))))
            obtain ⟨c33_8, ad33_8, k33_8, e33_8, p33_8⟩ := Kd.R.place hx i (by omega)
            refine r (ix (j := i) Tryd.underlying23 ti2 (y29.trans e33_8) y31 (by omega)) (r (ld Tryd.underlying2 rfl rfl (Ch.cell (Hold.ch H6) p33_8.cell)) (r (sa rfl) (re (sq (rg (r (mv rfl) (r (bi rfl rfl rfl) (r (mv rfl) ?_))))))))
            refine sp 37 rfl (fun h5 => ?_) (fun h5 => ?_)
            · refine gn rfl rfl rfl (gn rfl rfl rfl (r (pk rfl rfl) (re (ct rfl (sq ?_)))))
              refine gen (fun ρ => ρ 29 = v ∧ ρ 30 = .int .i64 (xs.length : Int) ∧ ρ 31 = .int .i64 (i : Int) ∧ True) ⟨y29, y30, y31, trivial⟩ ?_
              rintro ρ ⟨z29, z30, z31, -⟩
              refine rg (r (sa rfl) (re (rt ?_)))
              exact fin1 (v := .bool false) Tryd.results46 rfl ⟨congrArg Value.bool (decide_eq_false (fun e => by have := e.2.2.2.2 _ (List.getElem_mem hi'); omega)).symm, Hold.ch H6⟩
            · refine gy rfl rfl rfl (r (mv rfl) (gy rfl rfl rfl (r (bi rfl rfl rfl) (r (pk rfl rfl) (re ?_)))))
              refine cp rfl (fun h6 => ?_) (fun h6 => ?_)
              · refine sq ?_
                refine gen (fun ρ => ρ 29 = v ∧ ρ 30 = .int .i64 (xs.length : Int) ∧ ρ 31 = .int .i64 (i : Int) ∧ True) ⟨y29, y30, y31, trivial⟩ ?_
                rintro ρ ⟨z29, z30, z31, -⟩
                refine rg (r (sa rfl) (re (rt ?_)))
                exact fin1 (v := .bool false) Tryd.results46 rfl ⟨congrArg Value.bool (decide_eq_false (fun e => by have := e.2.2.2.2 _ (List.getElem_mem hi'); omega)).symm, Hold.ch H6⟩
              · refine sk (be ?_)
                refine gen (fun ρ => ρ 29 = v ∧ ρ 30 = .int .i64 (xs.length : Int) ∧ ρ 31 = .int .i64 (i : Int) ∧ True) ⟨y29, y30, y31, trivial⟩ ?_
                rintro ρ ⟨z29, z30, z31, -⟩
                refine rg (r (ad (a := (i : Int)) (b := 1) ((i : Int) + 1) z31 rfl (by omega)) (r (mv rfl) (re ?_)))
                exact ag (i + 1) ⟨z29, z30, rfl, H6, ⟨by omega, lids_step hi' hall (by omega)⟩⟩ (by first | omega | (dsimp only; omega))
          · obtain rfl : i = xs.length := by omega
            rw [List.take_length] at hall
            refine ex rfl (sq (rg (r (sa rfl) (re (rt ?_)))))
            exact fin1 (v := .bool true) Tryd.results46 rfl ⟨congrArg Value.bool (decide_eq_true ⟨h1', by omega, by omega, h4', hall⟩).symm, Hold.ch H6⟩
end Go.Proofs.YtgpcanjmgdmdhaaDoor
