/-
  SEVERAL TEXTS OF MY OWN IN ONE: 33, 34, 100, 101. No condition.
-/
import Derived.Test.YtanfhikfeabidaaGreatDoorM3
import Derived.Test.YtanfhikfeabidaaGreatDoorM1
import Derived.Test.YtanfhikfeabidaaGreatDoorM2
import Derived.Test.YtanfhikfeabidaaGreatDoorM4
namespace Go.Proofs.YtanfhikfeabidaaGreatDoor
open Go Go.Eng
set_option maxRecDepth 100000
set_option maxHeartbeats 4000000
set_option linter.unusedVariables false
set_option linter.unusedSimpArgs false
abbrev nameB (b : Int) : Prop := (97 ≤ b ∧ b ≤ 122) ∨ (48 ≤ b ∧ b ≤ 57) ∨ b = 46 ∨ b = 95 ∨ b = 45
abbrev okName (s : List Int) : Prop := (∀ b, b ∈ s → nameB b) ∧ 1 ≤ s.length ∧ s.length ≤ 16
theorem name_step {s : List Int} {i : Nat} (hi : i < s.length) (h : ∀ b, b ∈ s.take i → nameB b) (hb : nameB s[i]) : ∀ b, b ∈ s.take (i + 1) → nameB b := by
  intro b hb'
  rw [List.take_succ_eq_append_getElem hi, List.mem_append, List.mem_singleton] at hb'
  rcases hb' with h' | rfl
  · exact h b h'
  · exact hb
theorem name_no {s : List Int} {i : Nat} (hi : i < s.length) (hb : ¬ nameB s[i]) : ¬ okName s := fun h => hb (h.1 _ (List.getElem_mem hi))
theorem impl_ValidName {w : World} {s : ByteArray} (hs : s.size ≤ 9223372036854775807) : Ret Tryz.prog 61 #[.string s] w (fun r w' => r = .bool (decide (okName (nums8 s))) ∧ Ch [] w w') := by
  refine enter Tryz.func61 rfl Tryz.ntmps61 (by rfl) (by rfl) ?_
  have H0 : Hold w [] w [] := Hold.start w
  have hl := nums8_len s
  refine sq (rg (r (sa rfl) (re (sq (sq (rg (r (mv rfl) (r (lns Tryz.underlying9 rfl) (r (mv rfl) (re (bl ?_)))))))))))
  refine lp (α := Nat) (fun i ρ w' => ρ 0 = .string s ∧ ρ 6 = .int .i64 (s.size : Int) ∧ ρ 7 = .int .i64 (i : Int) ∧ Hold w [] w' [] ∧ i ≤ s.size ∧ ∀ b, b ∈ (nums8 s).take i → nameB b) (fun i => s.size - i) 0 ?_ ?_
  · exact ⟨rfl, rfl, rfl, H0, ⟨by omega, by simp⟩⟩
  clear H0
  rintro i ρ w501 ⟨y0, y6, y7, H1, ⟨hi, hall⟩⟩
  refine sq (rg (r (bi y7 y6 rfl) (re (sq ?_))))
  refine cp rfl (fun h => ?_) (fun h => ?_)
  · refine sk (sq (bl (sq (rg (r (mv y7) (r (sa rfl) (re (sq (rg (r (mv y0) (r (mv rfl) (r (six (j := i) Tryz.underlying9 rfl rfl (by omega)) (r (sa rfl) (re (sq (rg (r (mv rfl) (r (bi rfl rfl rfl) (r (mv rfl) ?_)))))))))))))))))))
    refine sp 15 rfl (fun h0 => ?_) (fun h0 => ?_)
    · refine gn rfl rfl rfl (gn rfl rfl rfl (r (pk rfl rfl) (r (mv rfl) (gy rfl rfl rfl (r (mv rfl) (gy rfl rfl rfl (r (bi rfl rfl rfl) (gy rfl rfl rfl (r (mv rfl) ?_)))))))))
      refine sp 22 rfl (fun h1 => ?_) (fun h1 => ?_)
      · refine gn rfl rfl rfl (gn rfl rfl rfl (gy rfl rfl rfl (r (pk rfl rfl) (r (pk rfl rfl) (r (mv rfl) (gy rfl rfl rfl (r (mv rfl) (gy rfl rfl rfl (r (bi rfl rfl rfl) (r (pk rfl rfl) (r (mv rfl) ?_)))))))))))
        refine spn 31 rfl (fun h2 => ?_) (fun h2 => ?_)
        · refine gy rfl rfl rfl (r (mv rfl) (gy rfl rfl rfl (r (bi rfl rfl rfl) (r (pk rfl rfl) (r (mv rfl) ?_)))))
          refine spn 35 rfl (fun h3 => ?_) (fun h3 => ?_)
          · refine gy rfl rfl rfl (r (mv rfl) (gy rfl rfl rfl (r (bi rfl rfl rfl) (r (pk rfl rfl) (re ?_)))))
            refine cpn rfl (fun h4 => ?_) (fun h4 => ?_)
            · refine sq ?_
              refine gen (fun ρ => ρ 0 = .string s ∧ ρ 6 = .int .i64 (s.size : Int) ∧ ρ 7 = .int .i64 (i : Int) ∧ True) ⟨y0, y6, y7, trivial⟩ ?_
              rintro ρ ⟨z0, z6, z7, -⟩
              refine rg (r (sa rfl) (re (rt ?_)))
              exact fin1 (v := .bool false) Tryz.results61 rfl ⟨congrArg Value.bool (decide_eq_false (name_no (i := i) (by omega) (by unfold nameB; omega))).symm, Hold.ch H1⟩
            · refine sk (be ?_)
              refine gen (fun ρ => ρ 0 = .string s ∧ ρ 6 = .int .i64 (s.size : Int) ∧ ρ 7 = .int .i64 (i : Int) ∧ True) ⟨y0, y6, y7, trivial⟩ ?_
              rintro ρ ⟨z0, z6, z7, -⟩
              refine rg (r (ad (a := (i : Int)) (b := 1) ((i : Int) + 1) z7 rfl (by omega)) (r (mv rfl) (re ?_)))
              exact ag (i + 1) ⟨z0, z6, rfl, H1, ⟨by omega, name_step (by omega) hall (by unfold nameB; omega)⟩⟩ (by first | omega | (dsimp only; omega))
          · refine gn rfl rfl rfl (gn rfl rfl rfl (r (pk rfl rfl) (re (cf rfl (sk (be ?_))))))
            refine gen (fun ρ => ρ 0 = .string s ∧ ρ 6 = .int .i64 (s.size : Int) ∧ ρ 7 = .int .i64 (i : Int) ∧ True) ⟨y0, y6, y7, trivial⟩ ?_
            rintro ρ ⟨z0, z6, z7, -⟩
            refine rg (r (ad (a := (i : Int)) (b := 1) ((i : Int) + 1) z7 rfl (by omega)) (r (mv rfl) (re ?_)))
            exact ag (i + 1) ⟨z0, z6, rfl, H1, ⟨by omega, name_step (by omega) hall (by unfold nameB; omega)⟩⟩ (by first | omega | (dsimp only; omega))
        · refine gn rfl rfl rfl (gn rfl rfl rfl (r (pk rfl rfl) (r (mv rfl) (gn rfl rfl rfl (gn rfl rfl rfl (r (pk rfl rfl) (re (cf rfl (sk (be ?_))))))))))
          refine gen (fun ρ => ρ 0 = .string s ∧ ρ 6 = .int .i64 (s.size : Int) ∧ ρ 7 = .int .i64 (i : Int) ∧ True) ⟨y0, y6, y7, trivial⟩ ?_
          rintro ρ ⟨z0, z6, z7, -⟩
          refine rg (r (ad (a := (i : Int)) (b := 1) ((i : Int) + 1) z7 rfl (by omega)) (r (mv rfl) (re ?_)))
          exact ag (i + 1) ⟨z0, z6, rfl, H1, ⟨by omega, name_step (by omega) hall (by unfold nameB; omega)⟩⟩ (by first | omega | (dsimp only; omega))
      · refine gy rfl rfl rfl (r (mv rfl) (gy rfl rfl rfl (r (bi rfl rfl rfl) (gy rfl rfl rfl (r (pk rfl rfl) (r (pk rfl rfl) (r (mv rfl) ?_)))))))
        refine sp 27 rfl (fun h2 => ?_) (fun h2 => ?_)
        · refine gy rfl rfl rfl (r (mv rfl) (gy rfl rfl rfl (r (bi rfl rfl rfl) (r (pk rfl rfl) (r (mv rfl) ?_)))))
          refine spn 31 rfl (fun h3 => ?_) (fun h3 => ?_)
          · refine gy rfl rfl rfl (r (mv rfl) (gy rfl rfl rfl (r (bi rfl rfl rfl) (r (pk rfl rfl) (r (mv rfl) ?_)))))
            refine spn 35 rfl (fun h4 => ?_) (fun h4 => ?_)
            · refine gy rfl rfl rfl (r (mv rfl) (gy rfl rfl rfl (r (bi rfl rfl rfl) (r (pk rfl rfl) (re ?_)))))
              refine cpn rfl (fun h5 => ?_) (fun h5 => ?_)
              · refine sq ?_
                refine gen (fun ρ => ρ 0 = .string s ∧ ρ 6 = .int .i64 (s.size : Int) ∧ ρ 7 = .int .i64 (i : Int) ∧ True) ⟨y0, y6, y7, trivial⟩ ?_
                rintro ρ ⟨z0, z6, z7, -⟩
                refine rg (r (sa rfl) (re (rt ?_)))
                exact fin1 (v := .bool false) Tryz.results61 rfl ⟨congrArg Value.bool (decide_eq_false (name_no (i := i) (by omega) (by unfold nameB; omega))).symm, Hold.ch H1⟩
              · refine sk (be ?_)
                refine gen (fun ρ => ρ 0 = .string s ∧ ρ 6 = .int .i64 (s.size : Int) ∧ ρ 7 = .int .i64 (i : Int) ∧ True) ⟨y0, y6, y7, trivial⟩ ?_
                rintro ρ ⟨z0, z6, z7, -⟩
                refine rg (r (ad (a := (i : Int)) (b := 1) ((i : Int) + 1) z7 rfl (by omega)) (r (mv rfl) (re ?_)))
                exact ag (i + 1) ⟨z0, z6, rfl, H1, ⟨by omega, name_step (by omega) hall (by unfold nameB; omega)⟩⟩ (by first | omega | (dsimp only; omega))
            · refine gn rfl rfl rfl (gn rfl rfl rfl (r (pk rfl rfl) (re (cf rfl (sk (be ?_))))))
              refine gen (fun ρ => ρ 0 = .string s ∧ ρ 6 = .int .i64 (s.size : Int) ∧ ρ 7 = .int .i64 (i : Int) ∧ True) ⟨y0, y6, y7, trivial⟩ ?_
              rintro ρ ⟨z0, z6, z7, -⟩
              refine rg (r (ad (a := (i : Int)) (b := 1) ((i : Int) + 1) z7 rfl (by omega)) (r (mv rfl) (re ?_)))
              exact ag (i + 1) ⟨z0, z6, rfl, H1, ⟨by omega, name_step (by omega) hall (by unfold nameB; omega)⟩⟩ (by first | omega | (dsimp only; omega))
          · refine gn rfl rfl rfl (gn rfl rfl rfl (r (pk rfl rfl) (r (mv rfl) (gn rfl rfl rfl (gn rfl rfl rfl (r (pk rfl rfl) (re (cf rfl (sk (be ?_))))))))))
            refine gen (fun ρ => ρ 0 = .string s ∧ ρ 6 = .int .i64 (s.size : Int) ∧ ρ 7 = .int .i64 (i : Int) ∧ True) ⟨y0, y6, y7, trivial⟩ ?_
            rintro ρ ⟨z0, z6, z7, -⟩
            refine rg (r (ad (a := (i : Int)) (b := 1) ((i : Int) + 1) z7 rfl (by omega)) (r (mv rfl) (re ?_)))
            exact ag (i + 1) ⟨z0, z6, rfl, H1, ⟨by omega, name_step (by omega) hall (by unfold nameB; omega)⟩⟩ (by first | omega | (dsimp only; omega))
        · refine gn rfl rfl rfl (gn rfl rfl rfl (r (pk rfl rfl) (r (mv rfl) (gn rfl rfl rfl (gn rfl rfl rfl (r (pk rfl rfl) (r (mv rfl) (gn rfl rfl rfl (gn rfl rfl rfl (r (pk rfl rfl) (re (cf rfl (sk (be ?_))))))))))))))
          refine gen (fun ρ => ρ 0 = .string s ∧ ρ 6 = .int .i64 (s.size : Int) ∧ ρ 7 = .int .i64 (i : Int) ∧ True) ⟨y0, y6, y7, trivial⟩ ?_
          rintro ρ ⟨z0, z6, z7, -⟩
          refine rg (r (ad (a := (i : Int)) (b := 1) ((i : Int) + 1) z7 rfl (by omega)) (r (mv rfl) (re ?_)))
          exact ag (i + 1) ⟨z0, z6, rfl, H1, ⟨by omega, name_step (by omega) hall (by unfold nameB; omega)⟩⟩ (by first | omega | (dsimp only; omega))
    · refine gy rfl rfl rfl (r (mv rfl) (gy rfl rfl rfl (r (bi rfl rfl rfl) (r (pk rfl rfl) (r (mv rfl) ?_)))))
      refine sp 19 rfl (fun h1 => ?_) (fun h1 => ?_)
      · refine gy rfl rfl rfl (r (mv rfl) (gy rfl rfl rfl (r (bi rfl rfl rfl) (gy rfl rfl rfl (r (mv rfl) ?_)))))
        refine sp 22 rfl (fun h2 => ?_) (fun h2 => ?_)
        · refine gn rfl rfl rfl (gn rfl rfl rfl (gy rfl rfl rfl (r (pk rfl rfl) (r (pk rfl rfl) (r (mv rfl) (gy rfl rfl rfl (r (mv rfl) (gy rfl rfl rfl (r (bi rfl rfl rfl) (r (pk rfl rfl) (r (mv rfl) ?_)))))))))))
          refine spn 31 rfl (fun h3 => ?_) (fun h3 => ?_)
          · refine gy rfl rfl rfl (r (mv rfl) (gy rfl rfl rfl (r (bi rfl rfl rfl) (r (pk rfl rfl) (r (mv rfl) ?_)))))
            refine spn 35 rfl (fun h4 => ?_) (fun h4 => ?_)
            · refine gy rfl rfl rfl (r (mv rfl) (gy rfl rfl rfl (r (bi rfl rfl rfl) (r (pk rfl rfl) (re ?_)))))
              refine cpn rfl (fun h5 => ?_) (fun h5 => ?_)
              · refine sq ?_
                refine gen (fun ρ => ρ 0 = .string s ∧ ρ 6 = .int .i64 (s.size : Int) ∧ ρ 7 = .int .i64 (i : Int) ∧ True) ⟨y0, y6, y7, trivial⟩ ?_
                rintro ρ ⟨z0, z6, z7, -⟩
                refine rg (r (sa rfl) (re (rt ?_)))
                exact fin1 (v := .bool false) Tryz.results61 rfl ⟨congrArg Value.bool (decide_eq_false (name_no (i := i) (by omega) (by unfold nameB; omega))).symm, Hold.ch H1⟩
              · refine sk (be ?_)
                refine gen (fun ρ => ρ 0 = .string s ∧ ρ 6 = .int .i64 (s.size : Int) ∧ ρ 7 = .int .i64 (i : Int) ∧ True) ⟨y0, y6, y7, trivial⟩ ?_
                rintro ρ ⟨z0, z6, z7, -⟩
                refine rg (r (ad (a := (i : Int)) (b := 1) ((i : Int) + 1) z7 rfl (by omega)) (r (mv rfl) (re ?_)))
                exact ag (i + 1) ⟨z0, z6, rfl, H1, ⟨by omega, name_step (by omega) hall (by unfold nameB; omega)⟩⟩ (by first | omega | (dsimp only; omega))
            · refine gn rfl rfl rfl (gn rfl rfl rfl (r (pk rfl rfl) (re (cf rfl (sk (be ?_))))))
              refine gen (fun ρ => ρ 0 = .string s ∧ ρ 6 = .int .i64 (s.size : Int) ∧ ρ 7 = .int .i64 (i : Int) ∧ True) ⟨y0, y6, y7, trivial⟩ ?_
              rintro ρ ⟨z0, z6, z7, -⟩
              refine rg (r (ad (a := (i : Int)) (b := 1) ((i : Int) + 1) z7 rfl (by omega)) (r (mv rfl) (re ?_)))
              exact ag (i + 1) ⟨z0, z6, rfl, H1, ⟨by omega, name_step (by omega) hall (by unfold nameB; omega)⟩⟩ (by first | omega | (dsimp only; omega))
          · refine gn rfl rfl rfl (gn rfl rfl rfl (r (pk rfl rfl) (r (mv rfl) (gn rfl rfl rfl (gn rfl rfl rfl (r (pk rfl rfl) (re (cf rfl (sk (be ?_))))))))))
            refine gen (fun ρ => ρ 0 = .string s ∧ ρ 6 = .int .i64 (s.size : Int) ∧ ρ 7 = .int .i64 (i : Int) ∧ True) ⟨y0, y6, y7, trivial⟩ ?_
            rintro ρ ⟨z0, z6, z7, -⟩
            refine rg (r (ad (a := (i : Int)) (b := 1) ((i : Int) + 1) z7 rfl (by omega)) (r (mv rfl) (re ?_)))
            exact ag (i + 1) ⟨z0, z6, rfl, H1, ⟨by omega, name_step (by omega) hall (by unfold nameB; omega)⟩⟩ (by first | omega | (dsimp only; omega))
        · refine gy rfl rfl rfl (r (mv rfl) (gy rfl rfl rfl (r (bi rfl rfl rfl) (gy rfl rfl rfl (r (pk rfl rfl) (r (pk rfl rfl) (r (mv rfl) ?_)))))))
          refine sp 27 rfl (fun h3 => ?_) (fun h3 => ?_)
          · refine gy rfl rfl rfl (r (mv rfl) (gy rfl rfl rfl (r (bi rfl rfl rfl) (r (pk rfl rfl) (r (mv rfl) ?_)))))
            refine spn 31 rfl (fun h4 => ?_) (fun h4 => ?_)
            · refine gy rfl rfl rfl (r (mv rfl) (gy rfl rfl rfl (r (bi rfl rfl rfl) (r (pk rfl rfl) (r (mv rfl) ?_)))))
              refine spn 35 rfl (fun h5 => ?_) (fun h5 => ?_)
              · refine gy rfl rfl rfl (r (mv rfl) (gy rfl rfl rfl (r (bi rfl rfl rfl) (r (pk rfl rfl) (re ?_)))))
                refine cpn rfl (fun h6 => ?_) (fun h6 => ?_)
                · refine sq ?_
                  refine gen (fun ρ => ρ 0 = .string s ∧ ρ 6 = .int .i64 (s.size : Int) ∧ ρ 7 = .int .i64 (i : Int) ∧ True) ⟨y0, y6, y7, trivial⟩ ?_
                  rintro ρ ⟨z0, z6, z7, -⟩
                  refine rg (r (sa rfl) (re (rt ?_)))
                  exact fin1 (v := .bool false) Tryz.results61 rfl ⟨congrArg Value.bool (decide_eq_false (name_no (i := i) (by omega) (by unfold nameB; omega))).symm, Hold.ch H1⟩
                · refine sk (be ?_)
                  refine gen (fun ρ => ρ 0 = .string s ∧ ρ 6 = .int .i64 (s.size : Int) ∧ ρ 7 = .int .i64 (i : Int) ∧ True) ⟨y0, y6, y7, trivial⟩ ?_
                  rintro ρ ⟨z0, z6, z7, -⟩
                  refine rg (r (ad (a := (i : Int)) (b := 1) ((i : Int) + 1) z7 rfl (by omega)) (r (mv rfl) (re ?_)))
                  exact ag (i + 1) ⟨z0, z6, rfl, H1, ⟨by omega, name_step (by omega) hall (by unfold nameB; omega)⟩⟩ (by first | omega | (dsimp only; omega))
              · refine gn rfl rfl rfl (gn rfl rfl rfl (r (pk rfl rfl) (re (cf rfl (sk (be ?_))))))
                refine gen (fun ρ => ρ 0 = .string s ∧ ρ 6 = .int .i64 (s.size : Int) ∧ ρ 7 = .int .i64 (i : Int) ∧ True) ⟨y0, y6, y7, trivial⟩ ?_
                rintro ρ ⟨z0, z6, z7, -⟩
                refine rg (r (ad (a := (i : Int)) (b := 1) ((i : Int) + 1) z7 rfl (by omega)) (r (mv rfl) (re ?_)))
                exact ag (i + 1) ⟨z0, z6, rfl, H1, ⟨by omega, name_step (by omega) hall (by unfold nameB; omega)⟩⟩ (by first | omega | (dsimp only; omega))
            · refine gn rfl rfl rfl (gn rfl rfl rfl (r (pk rfl rfl) (r (mv rfl) (gn rfl rfl rfl (gn rfl rfl rfl (r (pk rfl rfl) (re (cf rfl (sk (be ?_))))))))))
              refine gen (fun ρ => ρ 0 = .string s ∧ ρ 6 = .int .i64 (s.size : Int) ∧ ρ 7 = .int .i64 (i : Int) ∧ True) ⟨y0, y6, y7, trivial⟩ ?_
              rintro ρ ⟨z0, z6, z7, -⟩
              refine rg (r (ad (a := (i : Int)) (b := 1) ((i : Int) + 1) z7 rfl (by omega)) (r (mv rfl) (re ?_)))
              exact ag (i + 1) ⟨z0, z6, rfl, H1, ⟨by omega, name_step (by omega) hall (by unfold nameB; omega)⟩⟩ (by first | omega | (dsimp only; omega))
          · refine gn rfl rfl rfl (gn rfl rfl rfl (r (pk rfl rfl) (r (mv rfl) (gn rfl rfl rfl (gn rfl rfl rfl (r (pk rfl rfl) (r (mv rfl) (gn rfl rfl rfl (gn rfl rfl rfl (r (pk rfl rfl) (re (cf rfl (sk (be ?_))))))))))))))
            refine gen (fun ρ => ρ 0 = .string s ∧ ρ 6 = .int .i64 (s.size : Int) ∧ ρ 7 = .int .i64 (i : Int) ∧ True) ⟨y0, y6, y7, trivial⟩ ?_
            rintro ρ ⟨z0, z6, z7, -⟩
            refine rg (r (ad (a := (i : Int)) (b := 1) ((i : Int) + 1) z7 rfl (by omega)) (r (mv rfl) (re ?_)))
            exact ag (i + 1) ⟨z0, z6, rfl, H1, ⟨by omega, name_step (by omega) hall (by unfold nameB; omega)⟩⟩ (by first | omega | (dsimp only; omega))
      · refine gn rfl rfl rfl (gn rfl rfl rfl (gn rfl rfl rfl (gu rfl rfl rfl (gu rfl rfl rfl (gn rfl rfl rfl (r (pk rfl rfl) (r (mv rfl) (gn rfl rfl rfl (gn rfl rfl rfl (r (pk rfl rfl) (r (mv rfl) (gn rfl rfl rfl (gn rfl rfl rfl (r (pk rfl rfl) (r (mv rfl) (gn rfl rfl rfl (gn rfl rfl rfl (r (pk rfl rfl) (re (cf rfl (sk (be ?_))))))))))))))))))))))
        refine gen (fun ρ => ρ 0 = .string s ∧ ρ 6 = .int .i64 (s.size : Int) ∧ ρ 7 = .int .i64 (i : Int) ∧ True) ⟨y0, y6, y7, trivial⟩ ?_
        rintro ρ ⟨z0, z6, z7, -⟩
        refine rg (r (ad (a := (i : Int)) (b := 1) ((i : Int) + 1) z7 rfl (by omega)) (r (mv rfl) (re ?_)))
        exact ag (i + 1) ⟨z0, z6, rfl, H1, ⟨by omega, name_step (by omega) hall (by unfold nameB; omega)⟩⟩ (by first | omega | (dsimp only; omega))
  · obtain rfl : i = s.size := by omega
    rw [List.take_of_length_le (by omega)] at hall
    refine ex rfl (sq (rg (r (mv y0) (r (lns Tryz.underlying9 rfl) (r (bi rfl rfl rfl) (r (mv rfl) ?_))))))
    refine sp 43 rfl (fun h1 => ?_) (fun h1 => ?_)
    · refine gy rfl rfl rfl (r (mv y0) (gy rfl rfl rfl (r (lns Tryz.underlying9 rfl) (gy rfl rfl rfl (r (bi rfl rfl rfl) (r (pk rfl rfl) (r (sa rfl) (re (rt ?_)))))))))
      have hD : decide ((s.size : Int) ≤ 16) = decide (okName (nums8 s)) := by first | exact decide_eq_decide.2 ⟨fun h => ⟨hall, by omega, by omega⟩, fun h => by have := h.2; omega⟩ | exact (decide_eq_false (fun h => by have := h.2; omega)).symm
      exact fin1 (v := .bool (decide ((s.size : Int) ≤ 16))) Tryz.results61 rfl ⟨congrArg Value.bool hD, Hold.ch H1⟩
    · refine gn rfl rfl rfl (gn rfl rfl rfl (gn rfl rfl rfl (r (pk rfl rfl) (r (sa rfl) (re (rt ?_))))))
      have hD : false = decide (okName (nums8 s)) := by first | exact decide_eq_decide.2 ⟨fun h => ⟨hall, by omega, by omega⟩, fun h => by have := h.2; omega⟩ | exact (decide_eq_false (fun h => by have := h.2; omega)).symm
      exact fin1 (v := .bool false) Tryz.results61 rfl ⟨congrArg Value.bool hD, Hold.ch H1⟩
/-- An inode that is good; its bytes. -/
abbrev inoOk (nm : List Int) (sz : Int) (ls : List Int) : Prop := okName nm ∧ 0 ≤ sz ∧ sz ≤ 1408 ∧ (ls.length : Int) = (sz + 63) / 64 ∧ ∀ x, x ∈ ls → 1 ≤ x ∧ x ≤ 65535
def inoV (nm : List Int) (sz : Int) (ls : List Int) : List (Int × Int) := (2, sz) :: ls.map (fun x => (2, x))
def encI (nm : List Int) (sz : Int) (ls : List Int) : List Int := (nm ++ List.replicate (16 - nm.length) 0) ++ flat (inoV nm sz ls) ++ List.replicate (48 - (flat (inoV nm sz ls)).length) 0
def encIno (nm : List Int) (sz : Int) (ls : List Int) : List Int := if inoOk nm sz ls then encI nm sz ls else []
theorem inoV_len {nm : List Int} {sz : Int} {ls : List Int} : (flat (inoV nm sz ls)).length = 2 + 2 * ls.length := by
  simp only [flat, inoV, List.flatMap_cons, List.length_append, big_len]
  congr 1
  induction ls with
  | nil => rfl
  | cons x xs ih => simp only [List.map_cons, List.flatMap_cons, List.length_append, big_len, List.length_cons]; omega
theorem encI_len {nm : List Int} {sz : Int} {ls : List Int} (h : inoOk nm sz ls) : (encI nm sz ls).length = 64 := by
  obtain ⟨⟨_, h1, h2⟩, h3, h4, h5, _⟩ := h
  have := inoV_len (nm := nm) (sz := sz) (ls := ls)
  simp only [encI, List.length_append, List.length_replicate]
  omega
theorem dataBlocks {w : World} {n : Int} (hn : 0 ≤ n ∧ n ≤ 1000000000) : Ret Tryz.prog 108 #[.int .i64 n] w (fun r w' => r = .int .i64 ((n + 63) / 64) ∧ Ch [] w w') := by
  refine enter Tryz.func108 rfl Tryz.ntmps108 (by rfl) (by rfl) ?_
  have H0 : Hold w [] w [] := Hold.start w
  refine sq (rg (r (sa rfl) (re (sq (rg (r (mv rfl) (r (ad (a := n) (b := 64) (n + 64) rfl rfl (by omega)) (r (sb (a := n + 64) (b := 1) ((n + 64) - 1) rfl rfl (by omega)) (r (dv (a := (n + 64) - 1) (b := 64) ((n + 63) / 64) rfl rfl ⟨by omega, by rw [show n + 64 - 1 = n + 63 by omega, Int.tdiv_eq_ediv_of_nonneg (by omega)], by omega, by omega⟩) (r (sa rfl) (re (rt ?_))))))))))))
  exact fin1 (v := .int .i64 ((n + 63) / 64)) Tryz.results108 rfl ⟨rfl, Hold.ch H0⟩
end Go.Proofs.YtanfhikfeabidaaGreatDoor

namespace Go.Proofs.YtanfhikfeabidaaGreatDoor
open Go Go.Eng
set_option maxRecDepth 100000
set_option maxHeartbeats 4000000
set_option linter.unusedVariables false
set_option linter.unusedSimpArgs false
theorem bytesOf_H {w : World} {F : List Nat} {v : Value} {ns : List (Int × Int)} (hx : knum.R w F v ns) (lx : ns.length ≤ 2000) (hb : ∀ x, x ∈ ns → 0 ≤ x.1 ∧ x.1 ≤ 100 ∧ 0 ≤ x.2 ∧ x.2 ≤ 9223372036854775807) :
    Ret Tryz.prog 36 #[v] w (fun r w' => Hold w [] w' [rR u8 5 r (flat ns)]) :=
  Calls.mono (bytesOf hx lx hb) fun _ _ h => h.imp fun _ h => ⟨h.1, hold_new h.2.1 h.2.2⟩
theorem mix_16 {A C : List Int} (ha : A.length ≤ 16) (hb : C.length ≤ 48) : (A ++ List.replicate (64 - A.length) 0).take 16 ++ C.take (64 - 16) ++ (A ++ List.replicate (64 - A.length) 0).drop (16 + C.length) = (A ++ List.replicate (16 - A.length) 0) ++ C ++ List.replicate (48 - C.length) 0 := by
  rw [List.take_append, List.take_of_length_le (l := A) (by omega), List.take_replicate, List.take_of_length_le (l := C) (by omega), List.drop_append, List.drop_of_length_le (by omega), List.nil_append, List.drop_replicate]
  congr 2
  · congr 2; congr 1; omega
  · omega
theorem inoV_in {nm : List Int} {z : Int} {ls : List Int} (h : inoOk nm z ls) : ∀ x, x ∈ inoV nm z ls → 0 ≤ x.1 ∧ x.1 ≤ 100 ∧ 0 ≤ x.2 ∧ x.2 ≤ 9223372036854775807 := by
  intro x hx
  simp only [inoV, List.mem_cons, List.mem_map] at hx
  rcases hx with rfl | ⟨y, hy, rfl⟩
  · have := h.2; simp only; omega
  · have := h.2.2.2.2 y hy; simp only; omega
theorem inoV_take {nm : List Int} {z : Int} {ls : List Int} {i : Nat} (hi : i < ls.length) : inoV nm z (ls.take (i + 1)) = inoV nm z (ls.take i) ++ [(2, ls[i])] := by
  rw [List.take_succ_eq_append_getElem hi]; simp only [inoV, List.map_append, List.map_cons, List.map_nil, List.cons_append]
theorem Inode_block {w : World} {F : List Nat} {s : ByteArray} {z : Int} {v : Value} {xs : List Int} (hs : s.size ≤ 9223372036854775807) (hx : i64.R w F v xs) (lx : xs.length ≤ 1000000000) (ok : inoOk (nums8 s) z xs) : Ret Tryz.prog 110 #[.agg #[.string s, .int .i64 z, v]] w (fun r w' => r = .agg (byts (encI (nums8 s) z xs)).toArray ∧ Ch [] w w') := by
  refine enter Tryz.func110 rfl Tryz.ntmps110 (by rfl) (by rfl) ?_
  have H0 : Hold w [] w [] := Hold.start w
  have hn := nums8_len s
  obtain ⟨⟨o1, o2, o3⟩, o4, o5, o6, o7⟩ := ok
  refine sq (rg (ef (xbx (t := 89) rfl rfl) ?_))
  rintro _ w1 ⟨g1, e1, rfl, -, b1, c1⟩
  have H1 : Hold w [] w1 [rB g1 89 ([.string s, .int .i64 z, v])] := Hold.newB H0 e1 b1 c1
  clear H0
  clear e1 b1 c1
  refine ef (xal ti71) ?_
  rintro _ w2 ⟨g2, e2, rfl, -, b2, c2⟩
  have H2 : Hold w [] w2 [rB g1 89 ([.string s, .int .i64 z, v]), rB g2 71 (byts (List.replicate 64 0))] := Hold.newB H1 e2 b2 c2
  clear H1
  clear e2 b2 c2
  refine re (sq (rg (ef (xal ti71) ?_)))
  rintro _ w3 ⟨g3, e3, rfl, -, b3, c3⟩
  have H3 : Hold w [] w3 [rB g1 89 ([.string s, .int .i64 z, v]), rB g2 71 (byts (List.replicate 64 0)), rB g3 71 (byts (List.replicate 64 0))] := Hold.newB H2 e3 b3 c3
  clear H2
  clear e3 b3 c3
  refine re (sq ?_)
  refine rde mixed ?_
  intro w4 c4
  have H4 : Hold w [] w4 [rB g1 89 ([.string s, .int .i64 z, v]), rB g2 71 (byts (List.replicate 64 0)), rB g3 71 (byts (List.replicate 64 0))] := Hold.t H3 c4
  clear H3
  clear c4
  have H5d0 : Hold w4 [] w4 [] := Hold.start w4
  refine ⟨fun w' => Ch [] w4 w', Ch.refl _ _, ?_⟩
  have b6 : B w4 g1 89 ([.string s, .int .i64 z, v]) := Hold.blk H4 0 rfl
  have H5 : Hold w [] w4 [rB g1 89 ([.string s, .int .i64 z, v]), rB g2 71 (byts (List.replicate 64 0)), rB g3 71 (byts (List.replicate 64 0))] := Hold.news H4 H5d0
  clear H5d0 H4
  have b7 : B w4 g3 71 (byts (List.replicate 64 0)) := Hold.blk H5 2 rfl
  refine edt 0 rfl (by kernel_rfl) (fun w' hS => sla Tryz.underlying71 ti5 rfl) (edt 1 rfl (by kernel_rfl) (fun w' hS => fa Tryz.underlying89 rfl ti9 rfl rfl) (edt 2 rfl (by kernel_rfl) (fun w' hS => ldb Tryz.underlying9 rfl rfl (hS.b0 b6) rfl) (ed1 3 (by kernel_rfl) <| euf rfl (cpas (l := 0) (m := 64) Tryz.underlying22 ti5 ((rfl : _ = Value.slice (some ⟨g3, 0, none⟩) 64 64).trans (by simp [slv, Addr.add])) rfl b7 ⟨(by simp), by omega⟩) ?_)))
  rintro _ w8 ⟨rfl, -, b8, c8⟩
  have H6 : Hold w [] w8 [rB g1 89 ([.string s, .int .i64 z, v]), rB g2 71 (byts (List.replicate 64 0)), rB g3 71 (byts ((List.replicate 64 0).take 0 ++ (nums8 s).take (64 - 0) ++ (List.replicate 64 0).drop (0 + (nums8 s).length)))] := Hold.setB H5 2 rfl b8 c8 rfl
  clear H5
  clear b8 c8
  refine ⟨.inl (by kernel_rfl), ?_⟩
  refine edd (by kernel_rfl) ?_
  have b9 : B w8 g1 89 ([.string s, .int .i64 z, v]) := Hold.blk H6 0 rfl
  refine sq (rg (r (fa Tryz.underlying89 rfl ti2 rfl rfl) (r (ldb Tryz.underlying2 rfl rfl b9 rfl) (r (bd (r := [.int .i64 2, .int .i64 z]) ti103 pl103 (pc rfl (cel1 rfl) (pc rfl (cel1 rfl) pn)) rfl) (ef (bsm (cs := [.int .i64 2, .int .i64 z]) Tryz.underlying145 ti103 rfl (by rfl) (pc rfl rfl pn) rfl) ?_)))))
  rintro _ w10 ⟨g14, e10, rfl, -, b10, c10⟩
  have H7 : Hold w [] w10 [rB g1 89 ([.string s, .int .i64 z, v]), rB g2 71 (byts (List.replicate 64 0)), rB g3 71 (byts ((List.replicate 64 0).take 0 ++ (nums8 s).take (64 - 0) ++ (List.replicate 64 0).drop (0 + (nums8 s).length))), rB g14 103 ([.int .i64 2, .int .i64 z])] := Hold.newB H6 e10 b10 c10
  clear H6
  clear e10 b10 c10
  have H8 : Hold w [] w10 [rB g1 89 ([.string s, .int .i64 z, v]), rB g2 71 (byts (List.replicate 64 0)), rB g3 71 (byts ((List.replicate 64 0).take 0 ++ (nums8 s).take (64 - 0) ++ (List.replicate 64 0).drop (0 + (nums8 s).length))), rR knum 103 (.slice (some ⟨g14, 0, none⟩) 1 1) ([(2, z)])] := Hold.asrow (dk := knum) (xs := [(2, z)]) (m := 1) H7 3 rfl (els_flat [(2, z)]) ⟨rfl, Nat.le_of_ble_eq_true rfl⟩ rfl
  clear H7
  refine r (sa rfl) (re (sq (sq ?_)))
  refine gen (fun ρ => ρ 1 = .pointer (some ⟨g1, 0, none⟩) ∧ ρ 2 = .pointer (some ⟨g2, 0, none⟩) ∧ ρ 3 = .pointer (some ⟨g3, 0, none⟩) ∧ ρ 4 = .slice (some ⟨g14, 0, none⟩) 1 1 ∧ True) ⟨rfl, rfl, rfl, rfl, trivial⟩ ?_
  rintro ρ ⟨z1, z2, z3, z4, -⟩
  have b11 : B w10 g1 89 ([.string s, .int .i64 z, v]) := Hold.blk H8 0 rfl
  refine rg (r (fa Tryz.underlying89 rfl ti86 rfl z1) (r (ldb Tryz.underlying86 rfl rfl b11 rfl) (r (ln Tryz.underlying86 rfl ((hx.t (Hold.ch H8)))) (r (mv rfl) (re (bl ?_))))))
  have e1 : (List.replicate 64 0).take 0 ++ (nums8 s).take (64 - 0) ++ (List.replicate 64 0).drop (0 + (nums8 s).length) = (nums8 s ++ List.replicate (64 - (nums8 s).length) 0) := by
    rw [List.take_zero, List.nil_append, List.take_of_length_le (by omega), List.drop_replicate, Nat.zero_add]
  have H9 : Hold w [] w10 [rB g1 89 ([.string s, .int .i64 z, v]), rB g2 71 (byts (List.replicate 64 0)), rB g3 71 (byts (nums8 s ++ List.replicate (64 - (nums8 s).length) 0)), rR knum 103 (.slice (some ⟨g14, 0, none⟩) 1 1) ([(2, z)])] := (by rw [← e1]; exact H8)
  clear H8
  refine lp (α := Nat × Value) (fun (i, o) ρ w' => ρ 3 = .pointer (some ⟨g3, 0, none⟩) ∧ ρ 2 = .pointer (some ⟨g2, 0, none⟩) ∧ ρ 16 = v ∧ ρ 17 = .int .i64 (xs.length : Int) ∧ ρ 18 = .int .i64 (i : Int) ∧ ρ 4 = o ∧ Hold w [] w' [rB g1 89 ([.string s, .int .i64 z, v]), rB g2 71 (byts (List.replicate 64 0)), rB g3 71 (byts (nums8 s ++ List.replicate (64 - (nums8 s).length) 0)), rR knum 103 o (inoV (nums8 s) z (xs.take i))] ∧ i ≤ xs.length) (fun (i, o) => xs.length - i) (0, .slice (some ⟨g14, 0, none⟩) 1 1) ?_ ?_
  · exact ⟨z3, z2, rfl, rfl, rfl, z4, (by simpa [inoV] using H9), by omega⟩
  clear H9
  rintro ⟨i, o⟩ ρ w510 ⟨y3, y2, y16, y17, y18, y4, H10, hi⟩
  refine sq (rg (r (bi y18 y17 rfl) (re (sq ?_))))
  refine cp rfl (fun h => ?_) (fun h => ?_)
  · have hi' : i < xs.length := by omega
    have hv := inoV_len (nm := nums8 s) (sz := z) (ls := xs.take i)
    have hvl : (inoV (nums8 s) z (xs.take i)).length = i + 1 := by simp [inoV]; omega
    refine sk (sq (bl (sq (rg ?_))))
    obtain ⟨c20_12, ad20_12, k20_12, e20_12, p20_12⟩ := Kd.R.place hx i (by omega)
    refine r (ix (j := i) Tryz.underlying86 ti2 (y16.trans e20_12) y18 (by omega)) (r (ld Tryz.underlying2 rfl rfl (Ch.cell (Hold.ch H10) p20_12.cell)) (r (sa rfl) (re (rg (r (mv y4) (r (mv rfl) (r (bd (r := [.int .i64 2, .int .i64 (xs[i])]) ti103 pl103 (pc rfl (cel1 rfl) (pc rfl (cel1 rfl) pn)) rfl) (ef (xbs1 (cs := [.int .i64 2, .int .i64 (xs[i])]) Tryz.underlying145 ti103 rfl rfl rfl rfl rfl) ?_))))))))
    rintro _ w13 ⟨g25, e13, rfl, -, b13, c13⟩
    have H11 : Hold w [] w13 [rB g1 89 ([.string s, .int .i64 z, v]), rB g2 71 (byts (List.replicate 64 0)), rB g3 71 (byts (nums8 s ++ List.replicate (64 - (nums8 s).length) 0)), rR knum 103 o (inoV (nums8 s) z (xs.take i)), rB g25 103 ([.int .i64 2, .int .i64 (xs[i])])] := Hold.newB H10 e13 b13 c13
    clear H10
    clear e13 b13 c13
    have b15 : B w13 g25 103 ([.int .i64 2, .int .i64 (xs[i])]) := Hold.blk H11 4 rfl
    obtain ⟨F16, P16, n16, s16, K16⟩ := Hold.pick H11 3 rfl
    replace P16 : Kd.W knum 103 w13 F16 o (inoV (nums8 s) z (xs.take i)) := P16
    refine ef (xapb (ys := [(2, xs[i])]) Tryz.underlying145 ti103 rfl rfl rfl P16 b15 (els_one (R := Kd.O knum _) (show Kd.O knum _ [] (2, xs[i]) _ from ⟨rfl, rfl⟩)) (nodup_nil n16) (by simp; omega)) ?_
    rintro v26_14 w14 ⟨F14, A14⟩
    have H12 : Hold w [] w14 [rB g1 89 ([.string s, .int .i64 z, v]), rB g2 71 (byts (List.replicate 64 0)), rB g3 71 (byts (nums8 s ++ List.replicate (64 - (nums8 s).length) 0)), rR knum 103 v26_14 ((inoV (nums8 s) z (xs.take i)) ++ [(2, xs[i])]), rB g25 103 ([.int .i64 2, .int .i64 (xs[i])])] := Hold.apd K16 P16 A14 rfl
    clear H11
    clear A14 K16 P16 n16 s16
    refine r (sa rfl) (re (be ?_))
    refine gen (fun ρ => ρ 2 = .pointer (some ⟨g2, 0, none⟩) ∧ ρ 3 = .pointer (some ⟨g3, 0, none⟩) ∧ ρ 4 = v26_14 ∧ ρ 16 = v ∧ ρ 17 = .int .i64 (xs.length : Int) ∧ ρ 18 = .int .i64 (i : Int) ∧ True) ⟨y2, y3, rfl, y16, y17, y18, trivial⟩ ?_
    rintro ρ ⟨z2, z3, z4, z16, z17, z18, -⟩
    refine rg (r (ad (a := (i : Int)) (b := 1) ((i : Int) + 1) z18 rfl (by omega)) (r (mv rfl) (re ?_)))
    have H13 : Hold w [] w14 [rB g1 89 ([.string s, .int .i64 z, v]), rB g2 71 (byts (List.replicate 64 0)), rB g3 71 (byts (nums8 s ++ List.replicate (64 - (nums8 s).length) 0)), rR knum 103 v26_14 ((inoV (nums8 s) z (xs.take i)) ++ [(2, xs[i])])] := (show Hold w [] w14 ([rB g1 89 ([.string s, .int .i64 z, v]), rB g2 71 (byts (List.replicate 64 0)), rB g3 71 (byts (nums8 s ++ List.replicate (64 - (nums8 s).length) 0)), rR knum 103 v26_14 ((inoV (nums8 s) z (xs.take i)) ++ [(2, xs[i])])] ++ [rB g25 103 ([.int .i64 2, .int .i64 (xs[i])])]) from Hold.re H12 [0, 1, 2, 3, 4] (by kernel_rfl) (by rfl)).drop
    clear H12
    exact ag (i + 1, v26_14) ⟨z3, z2, z16, z17, rfl, z4, (by rw [inoV_take hi']; exact H13), by omega⟩ (by first | omega | (dsimp only; omega))
  · obtain rfl : i = xs.length := by omega
    have H11 : Hold w [] w510 [rB g1 89 ([.string s, .int .i64 z, v]), rB g2 71 (byts (List.replicate 64 0)), rB g3 71 (byts (nums8 s ++ List.replicate (64 - (nums8 s).length) 0)), rR knum 103 o (inoV (nums8 s) z xs)] := (by rw [List.take_length] at H10; exact H10)
    clear H10
    have hv := inoV_len (nm := nums8 s) (sz := z) (ls := xs)
    have hV := inoV_in (nm := nums8 s) (z := z) (ls := xs) ⟨⟨o1, o2, o3⟩, o4, o5, o6, o7⟩
    refine ex rfl (sq ?_)
    refine rde mixed ?_
    intro w12 c12
    have H12 : Hold w [] w12 [rB g1 89 ([.string s, .int .i64 z, v]), rB g2 71 (byts (List.replicate 64 0)), rB g3 71 (byts (nums8 s ++ List.replicate (64 - (nums8 s).length) 0)), rR knum 103 o (inoV (nums8 s) z xs)] := Hold.t H11 c12
    clear H11
    clear c12
    have H13d0 : Hold w12 [] w12 [] := Hold.start w12
    refine ⟨fun w' => Ch [] w12 w', Ch.refl _ _, ?_⟩
    obtain ⟨_, R15⟩ : ∃ F, Kd.R knum w12 F o (inoV (nums8 s) z xs) := Hold.row H12 3 rfl
    refine edt 0 rfl (by kernel_rfl) (fun w' hS => slal (l := 16) Tryz.underlying71 ti5 y3 rfl (by omega)) (edt 1 rfl (by kernel_rfl) (fun w' hS => mv y4) (ed1 2 (by kernel_rfl) <| euc rfl go36 (ac rfl an) (bytesOf_H (R15.t (Hold.ch H13d0)) (by simp [inoV]; omega) hV) ?_))
    rintro r3 wb Hb
    have H13d : Hold w12 [] wb [rR u8 5 r3 (flat (inoV (nums8 s) z xs))] := Hold.news H13d0 Hb
    clear H13d0
    clear Hb
    refine ⟨.inr (Hold.ch H13d), ?_⟩
    have H14 : Hold w [] wb [rB g1 89 ([.string s, .int .i64 z, v]), rB g2 71 (byts (List.replicate 64 0)), rB g3 71 (byts (nums8 s ++ List.replicate (64 - (nums8 s).length) 0)), rR knum 103 o (inoV (nums8 s) z xs), rR u8 5 r3 (flat (inoV (nums8 s) z xs))] := Hold.news H12 H13d
    clear H13d H12
    have b16 : B wb g3 71 (byts (nums8 s ++ List.replicate (64 - (nums8 s).length) 0)) := Hold.blk H14 2 rfl
    obtain ⟨_, R18⟩ : ∃ F, Kd.R u8 wb F r3 (flat (inoV (nums8 s) z xs)) := Hold.row H14 4 rfl
    refine ed1 3 (by kernel_rfl) <| euf rfl (cpa (l := 16) (m := 64) Tryz.underlying22 ti5 rfl rfl b16 ⟨(by simp; omega), by omega⟩ R18) ?_
    rintro _ w17 ⟨rfl, -, b17, c17⟩
    have H15 : Hold w [] w17 [rB g1 89 ([.string s, .int .i64 z, v]), rB g2 71 (byts (List.replicate 64 0)), rB g3 71 (byts ((nums8 s ++ List.replicate (64 - (nums8 s).length) 0).take 16 ++ (flat (inoV (nums8 s) z xs)).take (64 - 16) ++ (nums8 s ++ List.replicate (64 - (nums8 s).length) 0).drop (16 + (flat (inoV (nums8 s) z xs)).length))), rR knum 103 o (inoV (nums8 s) z xs), rR u8 5 r3 (flat (inoV (nums8 s) z xs))] := Hold.setB H14 2 rfl b17 c17 rfl
    clear H14
    clear b17 c17
    refine ⟨.inl (by kernel_rfl), ?_⟩
    refine edd (by kernel_rfl) ?_
    have b19 : B w17 g3 71 (byts ((nums8 s ++ List.replicate (64 - (nums8 s).length) 0).take 16 ++ (flat (inoV (nums8 s) z xs)).take (64 - 16) ++ (nums8 s ++ List.replicate (64 - (nums8 s).length) 0).drop (16 + (flat (inoV (nums8 s) z xs)).length))) := Hold.blk H15 2 rfl
    have b20 : B w17 g2 71 (byts (List.replicate 64 0)) := Hold.blk H15 1 rfl
    refine sq (rg (r (laa Tryz.underlying71 rfl ti71 y3 b19 (by simp; omega)) (ef0 (xsta ti71 y2 rfl (by simp; omega) b20 (by simp)) ?_)))
    rintro w21 ⟨-, b21, c21⟩
    have H16 : Hold w [] w21 [rB g1 89 ([.string s, .int .i64 z, v]), rB g2 71 (byts ((nums8 s ++ List.replicate (64 - (nums8 s).length) 0).take 16 ++ (flat (inoV (nums8 s) z xs)).take (64 - 16) ++ (nums8 s ++ List.replicate (64 - (nums8 s).length) 0).drop (16 + (flat (inoV (nums8 s) z xs)).length))), rB g3 71 (byts ((nums8 s ++ List.replicate (64 - (nums8 s).length) 0).take 16 ++ (flat (inoV (nums8 s) z xs)).take (64 - 16) ++ (nums8 s ++ List.replicate (64 - (nums8 s).length) 0).drop (16 + (flat (inoV (nums8 s) z xs)).length))), rR knum 103 o (inoV (nums8 s) z xs), rR u8 5 r3 (flat (inoV (nums8 s) z xs))] := Hold.setB H15 1 rfl b21 c21 rfl
    clear H15
    clear b21 c21
    refine re (rt ?_)
    have e2 : (nums8 s ++ List.replicate (64 - (nums8 s).length) 0).take 16 ++ (flat (inoV (nums8 s) z xs)).take (64 - 16) ++ (nums8 s ++ List.replicate (64 - (nums8 s).length) 0).drop (16 + (flat (inoV (nums8 s) z xs)).length) = encI (nums8 s) z xs := by
      exact mix_16 o3 (by omega)
    have hL := encI_len (nm := nums8 s) (sz := z) (ls := xs) ⟨⟨o1, o2, o3⟩, o4, o5, o6, o7⟩
    have H17 : Hold w [] w21 [rB g1 89 ([.string s, .int .i64 z, v]), rB g2 71 (byts (encI (nums8 s) z xs)), rB g3 71 (byts (encI (nums8 s) z xs)), rR knum 103 o (inoV (nums8 s) z xs), rR u8 5 r3 (flat (inoV (nums8 s) z xs))] := (by rw [e2] at H16; exact H16)
    clear H16
    have b22 : B w21 g2 71 (byts (encI (nums8 s) z xs)) := Hold.blk H17 1 rfl
    exact finc  (cs := byts (encI (nums8 s) z xs)) Tryz.results110 Tryz.underlying71 rfl ti71 y2 b22 (by simp [byts, hL])  ⟨rfl, Hold.ch H17⟩
end Go.Proofs.YtanfhikfeabidaaGreatDoor

namespace Go.Eng
set_option linter.unusedVariables false
section
variable {P : Program} {ρ : Fr} {w : World} {d : Option Nat} {ty : TypeId} {pos : String} {af : Array Edge}
/-- A field that is a struct. -/
theorem flda {s : TypeId} {x : Operand} {j : Nat} {cs : Array Value} {v z : Value} {fs : Array Field} {f : Field} {D : TypeDesc} {sz by_ : Nat} (hs : P.underlying s = some (.struct fs)) (hf : fs[j]? = some f) (hu : P.underlying f.type = some D) (hD : aggD D = true) (hi : TI P f.type z sz by_) (hx : ev ρ x = .agg cs) (hc : .agg (cs.extract f.offset (f.offset + sz)) = v) : Rn P ρ ⟨d, .field s x j, ty, pos, af, none⟩ w v := by
  refine ⟨rfl, fun w' _ => ?_⟩
  obtain ⟨i0, hi0, _, hsz, _⟩ := hi.size
  subst hc
  cases D <;> simp [aggD] at hD <;> simp [execOp, hx, Instr.field, run_underlying hs, hf, asAgg, part, isAgg, run_underlying hu, sizeOf, typeInfo, run_program, hi0, hsz]
end
end Go.Eng
namespace Go.Proofs.YtanfhikfeabidaaGreatDoor
open Go Go.Eng
set_option maxRecDepth 100000
set_option maxHeartbeats 4000000
set_option linter.unusedVariables false
set_option linter.unusedSimpArgs false
/-- A block of a file's data. -/
def blkD (xs : List Int) (i : Nat) : List Int := (xs.drop (i * 64)).take 64 ++ List.replicate (64 - (xs.drop (i * 64)).length) 0
theorem blkD_len (xs : List Int) (i : Nat) : (blkD xs i).length = 64 := by simp only [blkD, List.length_append, List.length_take, List.length_replicate]; omega
theorem blkD_ok {xs : List Int} (h : ok8 xs) (i : Nat) : ok8 (blkD xs i) := by
  intro x hx
  rcases List.mem_append.1 hx with hx | hx
  · exact h x (List.mem_of_mem_drop (List.mem_of_mem_take hx))
  · rw [List.eq_of_mem_replicate hx]; omega
/-- The blocks of a file in order are its data, padded. -/
theorem blkD_cat (xs : List Int) : ∀ n : Nat, ((List.range n).flatMap (blkD xs)).take (min xs.length (n * 64)) = xs.take (n * 64) := by
  intro n
  have main : ∀ n : Nat, ∀ k, k ≤ xs.length → k ≤ n * 64 → ((List.range n).flatMap (blkD xs)).take k = xs.take k := by
    intro n
    induction n with
    | zero => intro k _ h; rw [show k = 0 by omega]; simp
    | succ n ih =>
      intro k h1 h2
      have hl : ((List.range n).flatMap (blkD xs)).length = n * 64 := by
        clear ih h1 h2
        induction n with
        | zero => rfl
        | succ n ih => rw [List.range_succ, List.flatMap_append]; simp [blkD_len, ih]; omega
      rw [List.range_succ, List.flatMap_append]
      simp only [List.flatMap_cons, List.flatMap_nil, List.append_nil]
      by_cases hk : k ≤ n * 64
      · rw [List.take_append_of_le_length (by omega)]; exact ih k h1 hk
      · rw [List.take_append, hl, List.take_of_length_le (by omega)]
        have h3 := ih (n * 64) (by omega) (Nat.le_refl _)
        rw [List.take_of_length_le (by omega)] at h3
        rw [h3, blkD]
        rw [List.take_append_of_le_length (by simp; omega), List.take_take, Nat.min_eq_left (by omega)]
        rw [show k = n * 64 + (k - n * 64) by omega, List.take_add, show n * 64 + (k - n * 64) - n * 64 = k - n * 64 by omega]
  rw [main n _ (Nat.min_le_left _ _) (Nat.min_le_right _ _)]
  by_cases h : xs.length ≤ n * 64
  · rw [Nat.min_eq_left h, List.take_length, List.take_of_length_le h]
  · rw [Nat.min_eq_right (by omega)]
/-- A file on its way into the log: i of its blocks are there. -/
structure StJ (s b : Int) (tab : List (Int × Bool)) (lds : List Int) (DB : Nat → List Int) (f0 : Int) (i : Nat) (t : List (Int × Bool)) (rdf : Int → List Int) (a us : Int) : Prop where
  lg : Lg s b t a us
  fr : f0 - i ≤ freeF (segCounts t s b) a us b
  len : t.length = tab.length
  got : ∀ (j : Nat) (hj : j < lds.length), j < i → ∃ k : Nat, ∃ h : k < t.length, (k : Int) + 1 = lds[j] ∧ logs s b ≤ t[k].1 ∧ t[k].1 < logs s b + s * b ∧ rdf t[k].1 = DB j
  rest : ∀ (k : Nat) (h : k < t.length) (h' : k < tab.length), (∀ (j : Nat) (hj : j < lds.length), j < i → lds[j] ≠ (k : Int) + 1) → t[k] = tab[k]
  used : usedN t = usedN tab + i
theorem StJ.step {s b : Int} {tab : List (Int × Bool)} {lds : List Int} {DB : Nat → List Int} {f0 : Int} {i : Nat} {t : List (Int × Bool)} {rdf : Int → List Int} {a us : Int} (hg : geo s b) (hf0 : (lds.length : Int) ≤ f0) (J : StJ s b tab lds DB f0 i t rdf a us) (hi : i < lds.length) (hnd : lds.Nodup)
    (hz : ∀ l, l ∈ lds → ∃ k : Nat, ∃ h : k < tab.length, l = (k : Int) + 1 ∧ tab[k].1 = 0) (ino : Bool) :
    ∃ (a' u' : Int) (k : Nat), nAct (segCounts t s b) a us b = (a', u') ∧ (0 ≤ a' ∧ a' < s) ∧ (0 ≤ u' ∧ u' < b) ∧ (k : Int) + 1 = lds[i] ∧ k < t.length ∧
      StJ s b tab lds DB f0 (i + 1) (t.set k (logs s b + a' * b + u', ino)) (upR rdf (logs s b + a' * b + u') (DB i)) a' (u' + 1) := by
  obtain ⟨k, hk, hl, hk0⟩ := hz _ (List.getElem_mem hi)
  have hk' : k < t.length := by rw [J.len]; exact hk
  have hne : ∀ (j : Nat) (hj : j < lds.length), j ≠ i → lds[j] ≠ lds[i] := fun j hj hji e => hji ((List.getElem_inj hnd).1 e)
  have htk : t[k] = tab[k] := J.rest k hk' hk (fun j hj hlt => by rw [← hl]; exact hne j hj (by omega))
  have hf := J.fr
  obtain ⟨a', u', h1, h2, h3, h4, h5, h6⟩ := J.lg.step hg (by omega) hk' (by rw [htk]; exact hk0) ino
  have hm := mul_rng hg h2
  have hlp := logs_pos hg
  refine ⟨a', u', k, h1, h2, h3, hl.symm, hk', ⟨h5, by omega, by rw [List.length_set]; exact J.len, fun j hj hlt => ?_, fun q hq hq' hn => ?_, ?_⟩⟩
  · by_cases e : j = i
    · subst e
      refine ⟨k, by rw [List.length_set]; exact hk', hl.symm, ?_⟩
      rw [List.getElem_set_self]
      exact ⟨by dsimp only; omega, by dsimp only; omega, by dsimp only; rw [upR, if_pos rfl]⟩
    · obtain ⟨k2, q1, q2, q3, q4, q5⟩ := J.got j hj (by omega)
      have hkk : k ≠ k2 := fun q => hne j hj e (by rw [← q2, hl, q])
      refine ⟨k2, by rw [List.length_set]; exact q1, q2, ?_⟩
      rw [List.getElem_set_ne hkk]
      exact ⟨q3, q4, by rw [upR, if_neg (h4 _ (List.getElem_mem q1))]; exact q5⟩
  · rw [List.length_set] at hq
    have hkq : k ≠ q := fun q2 => hn i hi (by omega) (by rw [hl, q2])
    rw [List.getElem_set_ne hkq]
    exact J.rest q hq hq' (fun j hj hlt => hn j hj (by omega))
  · rw [usedN_set hk' (by rw [htk]; exact hk0) (by dsimp only; omega), J.used]
    omega
theorem impl_FileBlocks {w : World} {n : Int} (hn : 0 ≤ n ∧ n ≤ 1408) : Ret Tryz.prog 122 #[.int .i64 n] w (fun r w' => r = .int .i64 ((n + 63) / 64 + 1) ∧ Ch [] w w') := by
  refine enter Tryz.func122 rfl Tryz.ntmps122 (by rfl) (by rfl) ?_
  have H0 : Hold w [] w [] := Hold.start w
  refine sq (rg (r (sa rfl) (re (sq (sq (rg (r (mv rfl) (r (Rn.cast (v' := .bool false) (bi rfl rfl rfl) (congrArg Value.bool (decide_eq_false (by omega)))) (r (mv rfl) (gy rfl rfl rfl (r (mv rfl) (gy rfl rfl rfl (r (Rn.cast (v' := .bool false) (bi rfl rfl rfl) (congrArg Value.bool (decide_eq_false (by omega)))) (r (pk rfl rfl) (re (cf rfl (sk (sq (rg (r (mv rfl) (cl go108 (dataBlocks (by omega)) (ac rfl an) ?_)))))))))))))))))))))
  rintro r wd ⟨rfl, cd⟩
  have H1 : Hold w [] wd [] := Hold.t H0 cd
  clear H0
  clear cd
  refine r (ad (a := (n + 63) / 64) (b := 1) ((n + 63) / 64 + 1) rfl rfl (by omega)) (r (sa rfl) (re (rt ?_)))
  exact fin1 (v := .int .i64 ((n + 63) / 64 + 1)) Tryz.results122 rfl ⟨rfl, Hold.ch H1⟩
theorem eng_readFile {w : World} {F : List Nat} {ge gp gw gd gl gk : Nat} {tv : Value} {s b qn actv usd opn : Int} {rdf : Int → List Int} {tab : List (Int × Bool)} {wk : List Kf} {pl : List (Value × List Int)} {ck cz : Int} {nm cd : ByteArray} {k : Kf} (h : Hs w [rB ge 60 ((eC s b gp gw gd tv qn actv usd opn gl gk)), rPl gp (logs s b + s * b) rdf, rR kE 115 tv tab, rMW gw (wk.map kfP), rPool 2 pl] F) (nd : F.Nodup) (lt : tab.length ≤ 2000)
    (hfk : findK wk nm = some k) (hml : (k.lv, k.ls) ∈ pl) (hoc : k.lv.oneCell' = true) (hnl : k.ls.length ≤ 100) (hls : LsOk s b rdf tab k.ls) (hsz : 0 ≤ k.sz ∧ k.sz ≤ 64 * (k.ls.length : Int)) : Ret Tryz.prog 54 #[.pointer (some ⟨ge, 0, none⟩), .agg #[.int .i64 ck, .string nm, .string cd, .int .i64 cz]] w (fun r w' => r = ansV 0 (mkS ((catR rdf tab k.ls).take k.sz.toNat)) ∧ Hold w F w' [rB ge 60 ((eC s b gp gw gd tv qn actv usd opn gl gk)), rPl gp (logs s b + s * b) rdf, rR kE 115 tv tab, rMW gw (wk.map kfP), rPool 2 pl]) := by
  refine enter Tryz.func54 rfl Tryz.ntmps54 (by rfl) (by rfl) ?_
  have H0 : Hold w F w [rB ge 60 ((eC s b gp gw gd tv qn actv usd opn gl gk)), rPl gp (logs s b + s * b) rdf, rR kE 115 tv tab, rMW gw (wk.map kfP), rPool 2 pl] := Hold.begin h nd
  refine sq (rg (ef (xbx (t := 29) rfl rfl) ?_))
  rintro _ w1 ⟨g3, e1, rfl, -, b1, c1⟩
  have H1 : Hold w F w1 [rB ge 60 ((eC s b gp gw gd tv qn actv usd opn gl gk)), rPl gp (logs s b + s * b) rdf, rR kE 115 tv tab, rMW gw (wk.map kfP), rPool 2 pl, rB g3 29 ([.int .i64 ck, .string nm, .string cd, .int .i64 cz])] := Hold.newB H0 e1 b1 c1
  clear H0
  clear e1 b1 c1
  refine ef (xal ti42) ?_
  rintro _ w2 ⟨g4, e2, rfl, -, b2, c2⟩
  have H2 : Hold w F w2 [rB ge 60 ((eC s b gp gw gd tv qn actv usd opn gl gk)), rPl gp (logs s b + s * b) rdf, rR kE 115 tv tab, rMW gw (wk.map kfP), rPool 2 pl, rB g3 29 ([.int .i64 ck, .string nm, .string cd, .int .i64 cz]), rB g4 42 ([.int .i64 0, .string ⟨#[]⟩, .slice none 0 0, .int .i64 0, .int .i64 0, .int .i64 0, .int .i64 0, .int .i64 0, .int .i64 0])] := Hold.newB H1 e2 b2 c2
  clear H1
  clear e2 b2 c2
  refine re (sq ?_)
  refine rde mixed ?_
  intro w3 c3
  have H3 : Hold w F w3 [rB ge 60 ((eC s b gp gw gd tv qn actv usd opn gl gk)), rPl gp (logs s b + s * b) rdf, rR kE 115 tv tab, rMW gw (wk.map kfP), rPool 2 pl, rB g3 29 ([.int .i64 ck, .string nm, .string cd, .int .i64 cz]), rB g4 42 ([.int .i64 0, .string ⟨#[]⟩, .slice none 0 0, .int .i64 0, .int .i64 0, .int .i64 0, .int .i64 0, .int .i64 0, .int .i64 0])] := Hold.t H2 c3
  clear H2
  clear c3
  have H4 : Hold w F w3 [rPl gp (logs s b + s * b) rdf, rR kE 115 tv tab, rPool 2 pl, rB g4 42 ([.int .i64 0, .string ⟨#[]⟩, .slice none 0 0, .int .i64 0, .int .i64 0, .int .i64 0, .int .i64 0, .int .i64 0, .int .i64 0]), rB ge 60 ((eC s b gp gw gd tv qn actv usd opn gl gk)), rMW gw (wk.map kfP), rB g3 29 ([.int .i64 ck, .string nm, .string cd, .int .i64 cz])] := Hold.re H3 [1, 2, 4, 6, 0, 3, 5] (by kernel_rfl) (by rfl)
  clear H3
  obtain ⟨Fd4, hFd4, nd4, Kd4, Xd4, sd4⟩ := Hold.frontx (Γ := [rPl gp (logs s b + s * b) rdf, rR kE 115 tv tab, rPool 2 pl, rB g4 42 ([.int .i64 0, .string ⟨#[]⟩, .slice none 0 0, .int .i64 0, .int .i64 0, .int .i64 0, .int .i64 0, .int .i64 0, .int .i64 0])]) (Δ := [rB ge 60 ((eC s b gp gw gd tv qn actv usd opn gl gk)), rMW gw (wk.map kfP), rB g3 29 ([.int .i64 ck, .string nm, .string cd, .int .i64 cz])]) H4
  have H4d0 : Hold w3 Fd4 w3 [rPl gp (logs s b + s * b) rdf, rR kE 115 tv tab, rPool 2 pl, rB g4 42 ([.int .i64 0, .string ⟨#[]⟩, .slice none 0 0, .int .i64 0, .int .i64 0, .int .i64 0, .int .i64 0, .int .i64 0, .int .i64 0])] := Hold.begin hFd4 nd4
  refine ⟨fun w' => Ch Fd4 w3 w', Ch.refl _ _, ?_⟩
  obtain ⟨_, ⟨rfl, b5⟩, x5⟩ := Xd4 0 (rB ge 60 ((eC s b gp gw gd tv qn actv usd opn gl gk))) rfl
  obtain ⟨_, ⟨rfl, b6⟩, x6⟩ := Xd4 2 (rB g3 29 ([.int .i64 ck, .string nm, .string cd, .int .i64 cz])) rfl
  obtain ⟨_, ⟨rfl, b7⟩, x7⟩ := Xd4 1 (rMW gw (wk.map kfP)) rfl
  obtain ⟨F8, hF8, n8, s8, K8⟩ := Hold.front (Γ := [rPl gp (logs s b + s * b) rdf, rR kE 115 tv tab, rPool 2 pl]) (Δ := [rB g4 42 ([.int .i64 0, .string ⟨#[]⟩, .slice none 0 0, .int .i64 0, .int .i64 0, .int .i64 0, .int .i64 0, .int .i64 0, .int .i64 0])]) H4d0
  refine edt 0 rfl (by kernel_rfl) (fun w' hS => mv rfl) (edt 1 rfl (by kernel_rfl) (fun w' hS => nck rfl) (edt 2 rfl (by kernel_rfl) (fun w' hS => fa Tryz.underlying60 rfl ti49 rfl rfl) (edt 3 rfl (by kernel_rfl) (fun w' hS => ldb Tryz.underlying49 rfl rfl (hS.b b5 (x5 _ (by simp))) rfl) (edt 4 rfl (by kernel_rfl) (fun w' hS => mv rfl) (edt 5 rfl (by kernel_rfl) (fun w' hS => nck rfl) (edt 6 rfl (by kernel_rfl) (fun w' hS => fa Tryz.underlying60 rfl ti56 rfl rfl) (edt 7 rfl (by kernel_rfl) (fun w' hS => fa Tryz.underlying56 rfl ti54 rfl rfl) (edt 8 rfl (by kernel_rfl) (fun w' hS => fa Tryz.underlying54 rfl ti52 rfl rfl) (edt 9 rfl (by kernel_rfl) (fun w' hS => ldb Tryz.underlying52 rfl rfl (hS.b b5 (x5 _ (by simp))) rfl) (edt 10 rfl (by kernel_rfl) (fun w' hS => fa Tryz.underlying29 rfl ti9 rfl rfl) (edt 11 rfl (by kernel_rfl) (fun w' hS => ldb Tryz.underlying9 rfl rfl (hS.b b6 (x6 _ (by simp))) rfl) (edt 12 rfl (by kernel_rfl) (fun w' hS => Rn.cast (v' := .agg #[.int .i64 k.lid, .string k.nm, .int .i64 k.sz, k.lv]) (lkp1 Tryz.underlying52 Tryz.underlying9 ti91 rfl rfl (MpW.tt hS (x7 _ (by simp)) b7)) (by rw [look_kf, hfk]; rfl)) (edt 13 rfl (by kernel_rfl) (fun w' hS => flda Tryz.underlying91 rfl Tryz.underlying89 rfl ti89 rfl rfl) (edt 14 rfl (by kernel_rfl) (fun w' hS => mv rfl) (edt 15 rfl (by kernel_rfl) (fun w' hS => nck rfl) (edt 16 rfl (by kernel_rfl) (fun w' hS => fa Tryz.underlying60 rfl ti58 rfl rfl) (edt 17 rfl (by kernel_rfl) (fun w' hS => ldb Tryz.underlying58 rfl rfl (hS.b b5 (x5 _ (by simp))) rfl) (ed1 18 (by kernel_rfl) <| euc rfl go92 (ac rfl (ac rfl (ac rfl an))) (eng_dataOf hF8 n8 lt hml hnl hls hsz) ?_))))))))))))))))))
  rintro r wd ⟨rfl, Hd⟩
  have H5d : Hold w3 Fd4 wd [rPl gp (logs s b + s * b) rdf, rR kE 115 tv tab, rPool 2 pl, rB g4 42 ([.int .i64 0, .string ⟨#[]⟩, .slice none 0 0, .int .i64 0, .int .i64 0, .int .i64 0, .int .i64 0, .int .i64 0, .int .i64 0])] := Hold.call K8 Hd
  clear H4d0
  clear K8 hF8 n8 s8
  clear Hd
  refine ⟨.inr (Hold.ch H5d), ?_⟩
  have H6 : Hold w F wd [rPl gp (logs s b + s * b) rdf, rR kE 115 tv tab, rPool 2 pl, rB g4 42 ([.int .i64 0, .string ⟨#[]⟩, .slice none 0 0, .int .i64 0, .int .i64 0, .int .i64 0, .int .i64 0, .int .i64 0, .int .i64 0]), rB ge 60 ((eC s b gp gw gd tv qn actv usd opn gl gk)), rMW gw (wk.map kfP), rB g3 29 ([.int .i64 ck, .string nm, .string cd, .int .i64 cz])] := Hold.call Kd4 H5d
  clear H5d H4
  have b9 : B wd g4 42 ([.int .i64 0, .string ⟨#[]⟩, .slice none 0 0, .int .i64 0, .int .i64 0, .int .i64 0, .int .i64 0, .int .i64 0, .int .i64 0]) := Hold.blk H6 3 rfl
  refine edt 19 rfl (by kernel_rfl) (fun w' hS => bd (r := [.int .i64 0, .string (mkS ((catR rdf tab k.ls).take k.sz.toNat)), .slice none 0 0, .int .i64 0, .int .i64 0, .int .i64 0, .int .i64 0, .int .i64 0, .int .i64 0]) ti42 pl42 (pc rfl (cel1 rfl) pn) rfl) (ed1 20 (by kernel_rfl) <| euf0 rfl (xst (vs := [.int .i64 0, .string (mkS ((catR rdf tab k.ls).take k.sz.toNat)), .slice none 0 0, .int .i64 0, .int .i64 0, .int .i64 0, .int .i64 0, .int .i64 0, .int .i64 0]) ti42 rfl rfl rfl b9 rfl (Nat.le_of_ble_eq_true rfl) (one_all rfl)) ?_)
  rintro w10 ⟨-, b10, c10⟩
  have H7 : Hold w F w10 [rPl gp (logs s b + s * b) rdf, rR kE 115 tv tab, rPool 2 pl, rB g4 42 ([.int .i64 0, .string (mkS ((catR rdf tab k.ls).take k.sz.toNat)), .slice none 0 0, .int .i64 0, .int .i64 0, .int .i64 0, .int .i64 0, .int .i64 0, .int .i64 0]), rB ge 60 ((eC s b gp gw gd tv qn actv usd opn gl gk)), rMW gw (wk.map kfP), rB g3 29 ([.int .i64 ck, .string nm, .string cd, .int .i64 cz])] := Hold.setB H6 3 rfl b10 c10 rfl
  clear H6
  clear b10 c10
  refine ⟨.inl (by kernel_rfl), ?_⟩
  refine edd (by kernel_rfl) ?_
  refine rt ?_
  have b11 : B w10 g4 42 ([.int .i64 0, .string (mkS ((catR rdf tab k.ls).take k.sz.toNat)), .slice none 0 0, .int .i64 0, .int .i64 0, .int .i64 0, .int .i64 0, .int .i64 0, .int .i64 0]) := Hold.blk H7 3 rfl
  have H8 : Hold w F w10 [rB ge 60 ((eC s b gp gw gd tv qn actv usd opn gl gk)), rPl gp (logs s b + s * b) rdf, rR kE 115 tv tab, rMW gw (wk.map kfP), rPool 2 pl] := (show Hold w F w10 ([rB ge 60 ((eC s b gp gw gd tv qn actv usd opn gl gk)), rPl gp (logs s b + s * b) rdf, rR kE 115 tv tab, rMW gw (wk.map kfP), rPool 2 pl] ++ [rB g4 42 ([.int .i64 0, .string (mkS ((catR rdf tab k.ls).take k.sz.toNat)), .slice none 0 0, .int .i64 0, .int .i64 0, .int .i64 0, .int .i64 0, .int .i64 0, .int .i64 0]), rB g3 29 ([.int .i64 ck, .string nm, .string cd, .int .i64 cz])]) from Hold.re H7 [4, 0, 1, 5, 2, 3, 6] (by kernel_rfl) (by rfl)).drop
  clear H7
  exact finc  (cs := [.int .i64 0, .string (mkS ((catR rdf tab k.ls).take k.sz.toNat)), .slice none 0 0, .int .i64 0, .int .i64 0, .int .i64 0, .int .i64 0, .int .i64 0, .int .i64 0]) Tryz.results54 Tryz.underlying42 rfl ti42 rfl b11 rfl  ⟨rfl, H8⟩
end Go.Proofs.YtanfhikfeabidaaGreatDoor

namespace Go.Proofs.YtanfhikfeabidaaGreatDoor
open Go Go.Eng
set_option maxRecDepth 100000
set_option maxHeartbeats 4000000
set_option linter.unusedVariables false
set_option linter.unusedSimpArgs false
def mN (z : Nat) : Nat := (z + 63) / 64
/-- A file's blocks in order: its data, its inode. -/
def dbF (dt nm : List Int) (ls : List Int) (j : Nat) : List Int := if j < mN dt.length then blkD dt j else encI nm dt.length ls
/-- What a store leaves. -/
structure StR (s b : Int) (f0 : Int) (tab : List (Int × Bool)) (rdf : Int → List Int) (nm dt : ByteArray) (tab' : List (Int × Bool)) (rdf' : Int → List Int) (a us : Int) (k : Kf) : Prop where
  hnm : k.nm = nm
  hsz : k.sz = dt.size
  ocell : k.lv.oneCell' = true
  num : k.ls.length = mN dt.size
  J : StJ s b tab (k.ls ++ [k.lid]) (dbF (nums8 dt) (nums8 nm) k.ls) f0 (mN dt.size + 1) tab' rdf' a us
  lds : (k.ls ++ [k.lid]).Nodup ∧ ∀ l, l ∈ k.ls ++ [k.lid] → ∃ i : Nat, ∃ h : i < tab.length, l = (i : Int) + 1 ∧ tab[i].1 = 0
theorem eng_store_no {w : World} {G : List Nat} {ge gp gw gd gl gk : Nat} {tv : Value} {s b qn actv usd opn : Int} {tab : List (Int × Bool)} {nm dt : ByteArray} (hB : B w ge 60 (eC s b gp gw gd tv qn actv usd opn gl gk)) (hT : kE.R w G tv tab) (lt : tab.length ≤ 2000) (hg : geo s b) (hsz : dt.size ≤ 1408) (hcap : s * b - 2 * b < usedN tab + (mN dt.size + 1 : Nat)) : Ret Tryz.prog 91 #[.pointer (some ⟨ge, 0, none⟩), .string nm, .string dt] w (fun r w' => r = ansV 24 noB ∧ Ch [] w w') := by
  have hu := usedN_le tab
  have hm2 := geo_mul hg
  have hmN : ((dt.size : Int) + 63) / 64 = (mN dt.size : Int) := by unfold mN; omega
  refine enter Tryz.func91 rfl Tryz.ntmps91 (by rfl) (by rfl) ?_
  have H0 : Hold w [] w [] := Hold.start w
  refine sq (rg (ef (xal ti42) ?_))
  rintro _ w1 ⟨g6, e1, rfl, -, b1, c1⟩
  have H1 : Hold w [] w1 [rB g6 42 ([.int .i64 0, .string ⟨#[]⟩, .slice none 0 0, .int .i64 0, .int .i64 0, .int .i64 0, .int .i64 0, .int .i64 0, .int .i64 0])] := Hold.newB H0 e1 b1 c1
  clear H0
  clear e1 b1 c1
  refine re (sq (sq (rg (r (mv rfl) (r (lns Tryz.underlying9 rfl) (r (bi rfl rfl rfl) (re ?_)))))))
  refine cf ((rfl : _ = Value.bool (decide (1408 < (dt.size : Int)))).trans (congrArg Value.bool (show (decide (1408 < (dt.size : Int))) = false from (decide_eq_false (by omega))))) ?_
  refine sk (sq (rg (r (mv rfl) (r (lns Tryz.underlying9 rfl) (cl go122 (impl_FileBlocks ⟨by omega, by omega⟩) (ac rfl an) ?_)))))
  rintro r wf ⟨er, cf⟩
  rw [hmN] at er
  subst er
  have H2 : Hold w [] wf [rB g6 42 ([.int .i64 0, .string ⟨#[]⟩, .slice none 0 0, .int .i64 0, .int .i64 0, .int .i64 0, .int .i64 0, .int .i64 0, .int .i64 0])] := Hold.t H1 cf
  clear H1
  clear cf
  refine r (sa rfl) (re (sq (sq ?_)))
  refine rde mixed ?_
  intro w3 c3
  have H3 : Hold w [] w3 [rB g6 42 ([.int .i64 0, .string ⟨#[]⟩, .slice none 0 0, .int .i64 0, .int .i64 0, .int .i64 0, .int .i64 0, .int .i64 0, .int .i64 0])] := Hold.t H2 c3
  clear H2
  clear c3
  have H4d0 : Hold w3 [] w3 [] := Hold.start w3
  refine ⟨fun w' => Ch [] w3 w', Ch.refl _ _, ?_⟩
  refine edt 0 rfl (by kernel_rfl) (fun w' hS => mv rfl) (edt 1 rfl (by kernel_rfl) (fun w' hS => nck rfl) (edt 2 rfl (by kernel_rfl) (fun w' hS => fa Tryz.underlying60 rfl ti58 rfl rfl) (edt 3 rfl (by kernel_rfl) (fun w' hS => ldb Tryz.underlying58 rfl rfl (hS.b0 ((Hold.ch H3).b0 hB)) rfl) (edt 5 rfl (by kernel_rfl) (fun w' hS => mv rfl) (edt 7 rfl (by kernel_rfl) (fun w' hS => mv rfl) (edt 8 rfl (by kernel_rfl) (fun w' hS => nck rfl) (edt 9 rfl (by kernel_rfl) (fun w' hS => fa Tryz.underlying60 rfl ti51 rfl rfl) (edt 10 rfl (by kernel_rfl) (fun w' hS => fa Tryz.underlying51 rfl ti2 rfl rfl) (edt 11 rfl (by kernel_rfl) (fun w' hS => ldb Tryz.underlying2 rfl rfl (hS.b0 ((Hold.ch H3).b0 hB)) rfl) (ed1 4 (by kernel_rfl) <| euc rfl go28 (ac rfl an) (impl_used ((hT.t (Hold.ch H3)).t (Hold.ch H4d0)) (by omega)) ?_))))))))))
  rintro r wu ⟨rfl, cu⟩
  have H4d : Hold w3 [] wu [] := Hold.t H4d0 cu
  clear H4d0
  clear cu
  refine ⟨.inr (Hold.ch H4d), ?_⟩
  refine edt 6 rfl (by kernel_rfl) (fun w' hS => ad (a := usedN tab) (b := (mN dt.size : Int) + 1) ((usedN tab) + ((mN dt.size : Int) + 1)) rfl rfl (by omega)) ?_
  have H5 : Hold w [] wu [rB g6 42 ([.int .i64 0, .string ⟨#[]⟩, .slice none 0 0, .int .i64 0, .int .i64 0, .int .i64 0, .int .i64 0, .int .i64 0, .int .i64 0])] := Hold.news H3 H4d
  clear H4d H3
  refine ed1 12 (by kernel_rfl) <| eur rfl (bi rfl rfl rfl) (.inl (by kernel_rfl)) ?_
  refine edd (by kernel_rfl) ?_
  refine ct ((rfl : _ = Value.bool (decide ((s * b - 2 * b) < ((usedN tab) + ((mN dt.size : Int) + 1))))).trans (congrArg Value.bool (show (decide ((s * b - 2 * b) < ((usedN tab) + ((mN dt.size : Int) + 1)))) = true from (decide_eq_true (by omega))))) ?_
  refine sq ?_
  refine gen (fun ρ => ρ 0 = .pointer (some ⟨ge, 0, none⟩) ∧ ρ 1 = .string nm ∧ ρ 2 = .string dt ∧ ρ 6 = .pointer (some ⟨g6, 0, none⟩) ∧ ρ 7 = .int .i64 ((mN dt.size : Int) + 1) ∧ True) ⟨rfl, rfl, rfl, rfl, rfl, trivial⟩ ?_
  rintro ρ ⟨z0, z1, z2, z6, z7, -⟩
  have b6 : B wu g6 42 ([.int .i64 0, .string ⟨#[]⟩, .slice none 0 0, .int .i64 0, .int .i64 0, .int .i64 0, .int .i64 0, .int .i64 0, .int .i64 0]) := Hold.blk H5 0 rfl
  refine rg (r (bd (r := [.int .i64 24, .string ⟨#[]⟩, .slice none 0 0, .int .i64 0, .int .i64 0, .int .i64 0, .int .i64 0, .int .i64 0, .int .i64 0]) ti42 pl42 (pc rfl (cel1 rfl) pn) rfl) (ef0 (xst (vs := [.int .i64 24, .string ⟨#[]⟩, .slice none 0 0, .int .i64 0, .int .i64 0, .int .i64 0, .int .i64 0, .int .i64 0, .int .i64 0]) ti42 z6 rfl rfl b6 rfl (Nat.le_of_ble_eq_true rfl) (one_all rfl)) ?_))
  rintro w7 ⟨-, b7, c7⟩
  have H6 : Hold w [] w7 [rB g6 42 ([.int .i64 24, .string ⟨#[]⟩, .slice none 0 0, .int .i64 0, .int .i64 0, .int .i64 0, .int .i64 0, .int .i64 0, .int .i64 0])] := Hold.setB H5 0 rfl b7 c7 rfl
  clear H5
  clear b7 c7
  refine re (rt ?_)
  have b8 : B w7 g6 42 ([.int .i64 24, .string ⟨#[]⟩, .slice none 0 0, .int .i64 0, .int .i64 0, .int .i64 0, .int .i64 0, .int .i64 0, .int .i64 0]) := Hold.blk H6 0 rfl
  exact finc  (cs := [.int .i64 24, .string ⟨#[]⟩, .slice none 0 0, .int .i64 0, .int .i64 0, .int .i64 0, .int .i64 0, .int .i64 0, .int .i64 0]) Tryz.results91 Tryz.underlying42 rfl ti42 z6 b8 rfl  ⟨rfl, Hold.ch H6⟩
theorem eng_store_ok {w : World} {F : List Nat} {ge gp gw gd gl gk : Nat} {tv : Value} {s b qn actv usd opn : Int} {rdf : Int → List Int} {tab : List (Int × Bool)} {wk du : List Kf} {pl : List (Value × List Int)} {nm dt : ByteArray} (h : Hs w [rB ge 60 ((eC s b gp gw gd tv qn actv usd opn gl gk)), rPl gp (logs s b + s * b) rdf, rR kE 115 tv tab, rMW gw (wk.map kfP), rMW gd (du.map kfP), rPool 2 pl, rB gl 2 ([.int .i64 (-1)])] F) (nd : F.Nodup) (hg : geo s b) (hsz : dt.size ≤ 1408) (hnm : okName (nums8 nm))
    (hL : Lg s b tab actv usd) (hcap : usedN tab + (mN dt.size + 1 : Nat) ≤ s * b - 2 * b) (hfr : ((mN dt.size + 1 : Nat) : Int) + b ≤ freeF (segCounts tab s b) actv usd b) (hno : findK wk nm = none) (how : ∀ k, k ∈ wk → k.lv.oneCell' = true) (hod : ∀ k, k ∈ du → k.lv.oneCell' = true) :
    Ret Tryz.prog 91 #[.pointer (some ⟨ge, 0, none⟩), .string nm, .string dt] w (fun r w' => ∃ op' rd' a' us' tab' k, r = ansV 0 noB ∧ StR s b (freeF (segCounts tab s b) actv usd b) tab rdf nm dt tab' rd' a' us' k ∧ Hold w F w' [rB ge 60 ((eC s b gp gw gd tv qn a' us' op' gl gk)), rPl gp (logs s b + s * b) rd', rR kE 115 tv tab', rMW gw ((wk ++ [k]).map kfP), rMW gd (du.map kfP), rPool 2 ((k.lv, k.ls) :: pl), rB gl 2 ([.int .i64 (-1)])]) := by
  have hu := usedN_le tab
  have hm2 := geo_mul hg
  have hg2 := hg
  unfold geo at hg2
  have htl := hL.len
  have lt : tab.length ≤ 2000 := by omega
  obtain ⟨m, hm⟩ : ∃ m, m = mN dt.size := ⟨_, rfl⟩
  have hmN : ((dt.size : Int) + 63) / 64 = (m : Int) := by rw [hm]; unfold mN; omega
  rw [← hm] at hcap hfr
  have hm22 : m ≤ 22 := by rw [hm]; unfold mN; omega
  have hnl := nums8_len dt
  have h8 := nums8_ok dt
  refine enter Tryz.func91 rfl Tryz.ntmps91 (by rfl) (by rfl) ?_
  have H0 : Hold w F w [rB ge 60 ((eC s b gp gw gd tv qn actv usd opn gl gk)), rPl gp (logs s b + s * b) rdf, rR kE 115 tv tab, rMW gw (wk.map kfP), rMW gd (du.map kfP), rPool 2 pl, rB gl 2 ([.int .i64 (-1)])] := Hold.begin h nd
  refine sq (rg (ef (xal ti42) ?_))
  rintro _ w1 ⟨g6, e1, rfl, -, b1, c1⟩
  have H1 : Hold w F w1 [rB ge 60 ((eC s b gp gw gd tv qn actv usd opn gl gk)), rPl gp (logs s b + s * b) rdf, rR kE 115 tv tab, rMW gw (wk.map kfP), rMW gd (du.map kfP), rPool 2 pl, rB gl 2 ([.int .i64 (-1)]), rB g6 42 ([.int .i64 0, .string ⟨#[]⟩, .slice none 0 0, .int .i64 0, .int .i64 0, .int .i64 0, .int .i64 0, .int .i64 0, .int .i64 0])] := Hold.newB H0 e1 b1 c1
  clear H0
  clear e1 b1 c1
  refine re (sq (sq (rg (r (mv rfl) (r (lns Tryz.underlying9 rfl) (r (bi rfl rfl rfl) (re ?_)))))))
  refine cf ((rfl : _ = Value.bool (decide (1408 < (dt.size : Int)))).trans (congrArg Value.bool (show (decide (1408 < (dt.size : Int))) = false from (decide_eq_false (by omega))))) ?_
  refine sk (sq (rg (r (mv rfl) (r (lns Tryz.underlying9 rfl) (cl go122 (impl_FileBlocks ⟨by omega, by omega⟩) (ac rfl an) ?_)))))
  rintro r wf ⟨er, cf⟩
  rw [hmN] at er
  subst er
  have H2 : Hold w F wf [rB ge 60 ((eC s b gp gw gd tv qn actv usd opn gl gk)), rPl gp (logs s b + s * b) rdf, rR kE 115 tv tab, rMW gw (wk.map kfP), rMW gd (du.map kfP), rPool 2 pl, rB gl 2 ([.int .i64 (-1)]), rB g6 42 ([.int .i64 0, .string ⟨#[]⟩, .slice none 0 0, .int .i64 0, .int .i64 0, .int .i64 0, .int .i64 0, .int .i64 0, .int .i64 0])] := Hold.t H1 cf
  clear H1
  clear cf
  refine r (sa rfl) (re (sq (sq ?_)))
  refine rde mixed ?_
  intro w3 c3
  have H3 : Hold w F w3 [rB ge 60 ((eC s b gp gw gd tv qn actv usd opn gl gk)), rPl gp (logs s b + s * b) rdf, rR kE 115 tv tab, rMW gw (wk.map kfP), rMW gd (du.map kfP), rPool 2 pl, rB gl 2 ([.int .i64 (-1)]), rB g6 42 ([.int .i64 0, .string ⟨#[]⟩, .slice none 0 0, .int .i64 0, .int .i64 0, .int .i64 0, .int .i64 0, .int .i64 0, .int .i64 0])] := Hold.t H2 c3
  clear H2
  clear c3
  have H4d0 : Hold w3 [] w3 [] := Hold.start w3
  refine ⟨fun w' => Ch [] w3 w', Ch.refl _ _, ?_⟩
  have b5 : B w3 ge 60 ((eC s b gp gw gd tv qn actv usd opn gl gk)) := Hold.blk H3 0 rfl
  obtain ⟨_, R7⟩ : ∃ F, Kd.R kE w3 F tv tab := Hold.row H3 2 rfl
  refine edt 0 rfl (by kernel_rfl) (fun w' hS => mv rfl) (edt 1 rfl (by kernel_rfl) (fun w' hS => nck rfl) (edt 2 rfl (by kernel_rfl) (fun w' hS => fa Tryz.underlying60 rfl ti58 rfl rfl) (edt 3 rfl (by kernel_rfl) (fun w' hS => ldb Tryz.underlying58 rfl rfl (hS.b0 b5) rfl) (edt 5 rfl (by kernel_rfl) (fun w' hS => mv rfl) (edt 7 rfl (by kernel_rfl) (fun w' hS => mv rfl) (edt 8 rfl (by kernel_rfl) (fun w' hS => nck rfl) (edt 9 rfl (by kernel_rfl) (fun w' hS => fa Tryz.underlying60 rfl ti51 rfl rfl) (edt 10 rfl (by kernel_rfl) (fun w' hS => fa Tryz.underlying51 rfl ti2 rfl rfl) (edt 11 rfl (by kernel_rfl) (fun w' hS => ldb Tryz.underlying2 rfl rfl (hS.b0 b5) rfl) (ed1 4 (by kernel_rfl) <| euc rfl go28 (ac rfl an) (impl_used (R7.t (Hold.ch H4d0)) (by omega)) ?_))))))))))
  rintro r wu ⟨rfl, cu⟩
  have H4d : Hold w3 [] wu [] := Hold.t H4d0 cu
  clear H4d0
  clear cu
  refine ⟨.inr (Hold.ch H4d), ?_⟩
  refine edt 6 rfl (by kernel_rfl) (fun w' hS => ad (a := usedN tab) (b := (m : Int) + 1) ((usedN tab) + ((m : Int) + 1)) rfl rfl (by omega)) ?_
  have H5 : Hold w F wu [rB ge 60 ((eC s b gp gw gd tv qn actv usd opn gl gk)), rPl gp (logs s b + s * b) rdf, rR kE 115 tv tab, rMW gw (wk.map kfP), rMW gd (du.map kfP), rPool 2 pl, rB gl 2 ([.int .i64 (-1)]), rB g6 42 ([.int .i64 0, .string ⟨#[]⟩, .slice none 0 0, .int .i64 0, .int .i64 0, .int .i64 0, .int .i64 0, .int .i64 0, .int .i64 0])] := Hold.news H3 H4d
  clear H4d H3
  refine ed1 12 (by kernel_rfl) <| eur rfl (bi rfl rfl rfl) (.inl (by kernel_rfl)) ?_
  refine edd (by kernel_rfl) ?_
  refine cf ((rfl : _ = Value.bool (decide ((s * b - 2 * b) < ((usedN tab) + ((m : Int) + 1))))).trans (congrArg Value.bool (show (decide ((s * b - 2 * b) < ((usedN tab) + ((m : Int) + 1)))) = false from (decide_eq_false (by omega))))) ?_
  refine sk (sq ?_)
  refine gen (fun ρ => ρ 0 = .pointer (some ⟨ge, 0, none⟩) ∧ ρ 1 = .string nm ∧ ρ 2 = .string dt ∧ ρ 6 = .pointer (some ⟨g6, 0, none⟩) ∧ ρ 7 = .int .i64 ((m : Int) + 1) ∧ True) ⟨rfl, rfl, rfl, rfl, rfl, trivial⟩ ?_
  rintro ρ ⟨z0, z1, z2, z6, z7, -⟩
  have b9 : B wu ge 60 ((eC s b gp gw gd tv qn actv usd opn gl gk)) := Hold.blk H5 0 rfl
  obtain ⟨_, R10⟩ : ∃ F, Kd.R kE wu F tv tab := Hold.row H5 2 rfl
  refine rg (r (mv z0) (r (mv z7) (cl go123 (eng_makeRoom (n := (m : Int) + 1) b9 R10 lt hg ⟨hL.rus.1, by have := hL.rus.2; omega⟩ ⟨by omega, by omega⟩ (by omega)) (ac rfl (ac rfl an)) ?_)))
  rintro _ wm cm
  have H6 : Hold w F wm [rB ge 60 ((eC s b gp gw gd tv qn actv usd opn gl gk)), rPl gp (logs s b + s * b) rdf, rR kE 115 tv tab, rMW gw (wk.map kfP), rMW gd (du.map kfP), rPool 2 pl, rB gl 2 ([.int .i64 (-1)]), rB g6 42 ([.int .i64 0, .string ⟨#[]⟩, .slice none 0 0, .int .i64 0, .int .i64 0, .int .i64 0, .int .i64 0, .int .i64 0, .int .i64 0])] := Hold.t H5 cm
  clear H5
  clear cm
  have b11 : B wm ge 60 ((eC s b gp gw gd tv qn actv usd opn gl gk)) := Hold.blk H6 0 rfl
  obtain ⟨_, R13⟩ : ∃ F, Kd.R kE wm F tv tab := Hold.row H6 2 rfl
  refine re (sq (rg (r (mv z0) (r (nck rfl) (r (fa Tryz.underlying60 rfl ti58 rfl rfl) (r (ldb Tryz.underlying58 rfl rfl b11 rfl) (r (mv z7) (cl go124 (impl_FreeLids R13 (by omega)) (ac rfl (ac rfl an)) ?_))))))))
  rintro rf wf2 ⟨efl, Hf⟩
  have H7 : Hold w F wf2 [rB ge 60 ((eC s b gp gw gd tv qn actv usd opn gl gk)), rPl gp (logs s b + s * b) rdf, rR kE 115 tv tab, rMW gw (wk.map kfP), rMW gd (du.map kfP), rPool 2 pl, rB gl 2 ([.int .i64 (-1)]), rB g6 42 ([.int .i64 0, .string ⟨#[]⟩, .slice none 0 0, .int .i64 0, .int .i64 0, .int .i64 0, .int .i64 0, .int .i64 0, .int .i64 0]), rR i64 efl rf (flD tab ((m : Int) + 1))] := Hold.news H6 Hf
  clear H6
  clear Hf
  refine r (sa rfl) (re ?_)
  obtain ⟨hll, hlnd, hlz⟩ := flD_ok (t := tab) (n := m + 1) (by omega) (by omega)
  obtain ⟨lds, hlds⟩ : ∃ l, l = flD tab ((m : Int) + 1) := ⟨_, rfl⟩
  rw [show ((m + 1 : Nat) : Int) = (m : Int) + 1 from by omega, ← hlds] at hll hlnd hlz
  obtain ⟨lid, hlid⟩ : ∃ x, x = lds[m] := ⟨_, rfl⟩
  have hlsm : lds.take m ++ [lid] = lds := by
    rw [hlid, ← List.take_succ_eq_append_getElem (by omega), List.take_of_length_le (by omega)]
  have hltk : (lds.take m).length = m := by rw [List.length_take]; omega
  obtain ⟨DB, hDB⟩ : ∃ D, D = dbF (nums8 dt) (nums8 nm) (lds.take m) := ⟨_, rfl⟩
  obtain ⟨f0, hf0⟩ : ∃ f, f = freeF (segCounts tab s b) actv usd b := ⟨_, rfl⟩
  have hf1 : (lds.length : Int) ≤ f0 := by omega
  have J0 : StJ s b tab lds DB f0 0 tab rdf actv usd := ⟨hL, by omega, rfl, fun j hj h => absurd h (by omega), fun k h h' _ => rfl, by simp⟩
  have hino : inoOk (nums8 nm) dt.size (lds.take m) := ⟨hnm, by omega, by omega, by rw [hltk]; omega, fun x hx => by
    obtain ⟨i, hi, e, _⟩ := hlz x (List.mem_of_mem_take hx)
    omega⟩
  have H8 : Hold w F wf2 [rB ge 60 ((eC s b gp gw gd tv qn actv usd opn gl gk)), rPl gp (logs s b + s * b) rdf, rR kE 115 tv tab, rMW gw (wk.map kfP), rMW gd (du.map kfP), rPool 2 pl, rB gl 2 ([.int .i64 (-1)]), rB g6 42 ([.int .i64 0, .string ⟨#[]⟩, .slice none 0 0, .int .i64 0, .int .i64 0, .int .i64 0, .int .i64 0, .int .i64 0, .int .i64 0]), rR i64 efl rf lds] := (by rw [← hlds] at H7; exact H7)
  clear H7
  obtain ⟨_, R14⟩ : ∃ F, Kd.R i64 wf2 F rf lds := Hold.row H8 8 rfl
  have hLV : (slv rf 0 m 1).oneCell' = true := (Kd.R.sl R14 0 m (by omega) (by omega)).choose_spec.2.oneCell
  refine sq ?_
  refine gen (fun ρ => ρ 0 = .pointer (some ⟨ge, 0, none⟩) ∧ ρ 1 = .string nm ∧ ρ 2 = .string dt ∧ ρ 6 = .pointer (some ⟨g6, 0, none⟩) ∧ ρ 7 = .int .i64 ((m : Int) + 1) ∧ ρ 8 = rf ∧ True) ⟨z0, z1, z2, z6, z7, rfl, trivial⟩ ?_
  rintro ρ ⟨z0, z1, z2, z6, z7, z8, -⟩
  refine rde mixed ?_
  intro w15 c15
  have H9 : Hold w F w15 [rB ge 60 ((eC s b gp gw gd tv qn actv usd opn gl gk)), rPl gp (logs s b + s * b) rdf, rR kE 115 tv tab, rMW gw (wk.map kfP), rMW gd (du.map kfP), rPool 2 pl, rB gl 2 ([.int .i64 (-1)]), rB g6 42 ([.int .i64 0, .string ⟨#[]⟩, .slice none 0 0, .int .i64 0, .int .i64 0, .int .i64 0, .int .i64 0, .int .i64 0, .int .i64 0]), rR i64 efl rf lds] := Hold.t H8 c15
  clear H8
  clear c15
  have H16d0 : Hold w15 [] w15 [] := Hold.start w15
  refine ⟨fun w' => Ch [] w15 w', Ch.refl _ _, ?_⟩
  obtain ⟨_, R17⟩ : ∃ F, Kd.R i64 w15 F rf lds := Hold.row H9 8 rfl
  refine edt 0 rfl (by kernel_rfl) (fun w' hS => mv z8) (edt 1 rfl (by kernel_rfl) (fun w' hS => mv z7) (edt 2 rfl (by kernel_rfl) (fun w' hS => sb (a := (m : Int) + 1) (b := 1) ((m : Int)) rfl rfl (by omega)) ?_))
  obtain ⟨c46_18, ad46_18, k46_18, e46_18, p46_18⟩ := Kd.R.place R17 m ((by omega))
  refine edt 3 rfl (by kernel_rfl) (fun w' hS => ix (j := m) Tryz.underlying86 ti2 e46_18 rfl ((by omega))) (edt 4 rfl (by kernel_rfl) (fun w' hS => Rn.cast (v' := .int .i64 lid) (ld Tryz.underlying2 rfl rfl (Ch.cell hS p46_18.cell)) (congrArg (Value.int .i64) hlid.symm)) (edt 5 rfl (by kernel_rfl) (fun w' hS => mv z1) (edt 6 rfl (by kernel_rfl) (fun w' hS => mv z2) (edt 7 rfl (by kernel_rfl) (fun w' hS => lns Tryz.underlying9 rfl) (edt 8 rfl (by kernel_rfl) (fun w' hS => mv z8) (edt 9 rfl (by kernel_rfl) (fun w' hS => mv z7) (edt 10 rfl (by kernel_rfl) (fun w' hS => sb (a := (m : Int) + 1) (b := 1) ((m : Int)) rfl rfl (by omega)) (edt 11 rfl (by kernel_rfl) (fun w' hS => slrh (m) Tryz.underlying86 ti2 (R17.t hS) rfl rfl (by omega)) (edt 12 rfl (by kernel_rfl) (fun w' hS => bd (r := [.string nm, .int .i64 (dt.size : Int), slv rf 0 m 1]) ti89 pl89 (pc rfl (cel1 rfl) (pc rfl (cel1 rfl) (pc rfl (cel1 hLV) pn))) rfl) (edt 13 rfl (by kernel_rfl) (fun w' hS => bd (r := [.int .i64 lid, .string nm, .int .i64 (dt.size : Int), slv rf 0 m 1]) ti91 pl91 (pc rfl (cel1 rfl) (pc rfl rfl pn)) rfl) (ed1 14 (by kernel_rfl) <| euf rfl (xal ti91) ?_)))))))))))
  rintro _ w19 ⟨g9, e19, rfl, -, b19, c19⟩
  have H10d : Hold w15 [] w19 [rB g9 91 ([.int .i64 0, .string ⟨#[]⟩, .int .i64 0, .slice none 0 0])] := Hold.newB H16d0 e19 b19 c19
  clear H16d0
  clear e19 b19 c19
  refine ⟨.inr (Hold.ch H10d), ?_⟩
  have H11 : Hold w F w19 [rB ge 60 ((eC s b gp gw gd tv qn actv usd opn gl gk)), rPl gp (logs s b + s * b) rdf, rR kE 115 tv tab, rMW gw (wk.map kfP), rMW gd (du.map kfP), rPool 2 pl, rB gl 2 ([.int .i64 (-1)]), rB g6 42 ([.int .i64 0, .string ⟨#[]⟩, .slice none 0 0, .int .i64 0, .int .i64 0, .int .i64 0, .int .i64 0, .int .i64 0, .int .i64 0]), rR i64 efl rf lds, rB g9 91 ([.int .i64 0, .string ⟨#[]⟩, .int .i64 0, .slice none 0 0])] := Hold.news H9 H10d
  clear H10d H9
  have b20 : B w19 g9 91 ([.int .i64 0, .string ⟨#[]⟩, .int .i64 0, .slice none 0 0]) := Hold.blk H11 9 rfl
  refine ed1 15 (by kernel_rfl) <| euf0 rfl (xst (vs := [.int .i64 lid, .string nm, .int .i64 (dt.size : Int), slv rf 0 m 1]) ti91 rfl rfl rfl b20 rfl (Nat.le_of_ble_eq_true rfl) (oc rfl (oc rfl (oc rfl (oc hLV on))))) ?_
  rintro w21 ⟨-, b21, c21⟩
  have H12 : Hold w F w21 [rB ge 60 ((eC s b gp gw gd tv qn actv usd opn gl gk)), rPl gp (logs s b + s * b) rdf, rR kE 115 tv tab, rMW gw (wk.map kfP), rMW gd (du.map kfP), rPool 2 pl, rB gl 2 ([.int .i64 (-1)]), rB g6 42 ([.int .i64 0, .string ⟨#[]⟩, .slice none 0 0, .int .i64 0, .int .i64 0, .int .i64 0, .int .i64 0, .int .i64 0, .int .i64 0]), rR i64 efl rf lds, rB g9 91 ([.int .i64 lid, .string nm, .int .i64 (dt.size : Int), slv rf 0 m 1])] := Hold.setB H11 9 rfl b21 c21 rfl
  clear H11
  clear b21 c21
  refine ⟨.inl (by kernel_rfl), ?_⟩
  refine edd (by kernel_rfl) ?_
  refine sq ?_
  obtain ⟨lv, hlv⟩ : ∃ v, v = slv rf 0 m 1 := ⟨_, rfl⟩
  have H13 : Hold w F w21 [rR i64 efl rf lds, rPool 2 pl, rB ge 60 ((eC s b gp gw gd tv qn actv usd opn gl gk)), rPl gp (logs s b + s * b) rdf, rR kE 115 tv tab, rMW gw (wk.map kfP), rMW gd (du.map kfP), rB gl 2 ([.int .i64 (-1)]), rB g6 42 ([.int .i64 0, .string ⟨#[]⟩, .slice none 0 0, .int .i64 0, .int .i64 0, .int .i64 0, .int .i64 0, .int .i64 0, .int .i64 0]), rB g9 91 ([.int .i64 lid, .string nm, .int .i64 (dt.size : Int), slv rf 0 m 1])] := Hold.re H12 [8, 5, 0, 1, 2, 3, 4, 6, 7, 9] (by kernel_rfl) (by rfl)
  clear H12
  rw [← hlv] at hLV
  have H14 : Hold w F w21 [rPool 2 ((lv, lds.take m) :: pl), rB ge 60 ((eC s b gp gw gd tv qn actv usd opn gl gk)), rPl gp (logs s b + s * b) rdf, rR kE 115 tv tab, rMW gw (wk.map kfP), rMW gd (du.map kfP), rB gl 2 ([.int .i64 (-1)]), rB g6 42 ([.int .i64 0, .string ⟨#[]⟩, .slice none 0 0, .int .i64 0, .int .i64 0, .int .i64 0, .int .i64 0, .int .i64 0, .int .i64 0]), rB g9 91 ([.int .i64 lid, .string nm, .int .i64 (dt.size : Int), lv])] := (by rw [hlv]; exact Hold.keepC m (by omega) H13)
  clear H13
  refine sq ?_
  refine gen (fun ρ => ρ 0 = .pointer (some ⟨ge, 0, none⟩) ∧ ρ 1 = .string nm ∧ ρ 2 = .string dt ∧ ρ 6 = .pointer (some ⟨g6, 0, none⟩) ∧ ρ 9 = .pointer (some ⟨g9, 0, none⟩) ∧ True) ⟨z0, z1, z2, z6, rfl, trivial⟩ ?_
  rintro ρ ⟨z0, z1, z2, z6, z9, -⟩
  have b22 : B w21 g9 91 ([.int .i64 lid, .string nm, .int .i64 (dt.size : Int), lv]) := Hold.blk H14 8 rfl
  obtain ⟨_, T23⟩ := Hold.kept H14 0 rfl (show (lv, lds.take m) ∈ (lv, lds.take m) :: pl from List.mem_cons_self)
  refine rg (r (fa Tryz.underlying91 rfl ti89 rfl z9) (r (fa Tryz.underlying89 rfl ti86 rfl rfl) (r (ldb Tryz.underlying86 rfl rfl b22 rfl) (r (ln Tryz.underlying86 rfl (T23)) (r (mv rfl) (re (bl ?_)))))))
  have H15 : Hold w F w21 [rB ge 60 ((eC s b gp gw gd tv qn actv usd opn gl gk)), rPl gp (logs s b + s * b) rdf, rR kE 115 tv tab, rMW gw (wk.map kfP), rMW gd (du.map kfP), rPool 2 ((lv, lds.take m) :: pl), rB gl 2 ([.int .i64 (-1)]), rB g6 42 ([.int .i64 0, .string ⟨#[]⟩, .slice none 0 0, .int .i64 0, .int .i64 0, .int .i64 0, .int .i64 0, .int .i64 0, .int .i64 0]), rB g9 91 ([.int .i64 lid, .string nm, .int .i64 (dt.size : Int), lv])] := Hold.re H14 [1, 2, 3, 4, 5, 0, 6, 7, 8] (by kernel_rfl) (by rfl)
  clear H14
  refine lp (α := Nat × Int × (Int → List Int) × Int × Int × List (Int × Bool)) (fun (i, op2, rd2, a2, us2, tab2) ρ w' => ρ 0 = .pointer (some ⟨ge, 0, none⟩) ∧ ρ 1 = .string nm ∧ ρ 2 = .string dt ∧ ρ 6 = .pointer (some ⟨g6, 0, none⟩) ∧ ρ 9 = .pointer (some ⟨g9, 0, none⟩) ∧ ρ 59 = lv ∧ ρ 60 = .int .i64 (m : Int) ∧ ρ 61 = .int .i64 (i : Int) ∧ Hold w F w' [rB ge 60 ((eC s b gp gw gd tv qn a2 us2 op2 gl gk)), rPl gp (logs s b + s * b) rd2, rR kE 115 tv tab2, rMW gw (wk.map kfP), rMW gd (du.map kfP), rPool 2 ((lv, lds.take m) :: pl), rB gl 2 ([.int .i64 (-1)]), rB g6 42 ([.int .i64 0, .string ⟨#[]⟩, .slice none 0 0, .int .i64 0, .int .i64 0, .int .i64 0, .int .i64 0, .int .i64 0, .int .i64 0]), rB g9 91 ([.int .i64 lid, .string nm, .int .i64 (dt.size : Int), lv])] ∧ i ≤ m ∧ StJ s b tab lds DB f0 i tab2 rd2 a2 us2) (fun (i, op2, rd2, a2, us2, tab2) => m - i) (0, opn, rdf, actv, usd, tab) ?_ ?_
  · exact ⟨z0, z1, z2, z6, z9, rfl, (congrArg (Value.int .i64) (by rw [hltk])), rfl, H15, ⟨by omega, J0⟩⟩
  clear H15
  rintro ⟨i, op2, rd2, a2, us2, tab2⟩ ρ w516 ⟨y0, y1, y2, y6, y9, y59, y60, y61, H16, ⟨hi, J⟩⟩
  refine sq (rg (r (bi y61 y60 rfl) (re (sq ?_))))
  refine cp rfl (fun hlt => ?_) (fun hlt => ?_)
  · have hi' : i < m := by omega
    have hi2 : i < lds.length := by omega
    have hi3 : i < (lds.take m).length := by omega
    obtain ⟨a', u', k, hA, ha, hu2, hkl, hk, J'⟩ := J.step hg hf1 hi2 hlnd hlz false
    have lt2 : tab2.length ≤ 2000 := by rw [J.len]; omega
    have hdb : DB i = blkD (nums8 dt) i := by rw [hDB]; unfold dbF; rw [if_pos (by rw [hnl, ← hm]; exact hi')]
    have hgl : (lds.take m)[i] = (k : Int) + 1 := by rw [List.getElem_take, hkl]
    have hDl : (DB i).length = 64 := by rw [hdb]; exact blkD_len _ _
    have e12 : (List.replicate 64 0).take 0 ++ (nums8 (mkS ((nums8 dt).drop (i * 64)))).take (64 - 0) ++ (List.replicate 64 0).drop (0 + (nums8 (mkS ((nums8 dt).drop (i * 64)))).length) = DB i := by
      rw [nums8_mkS (ok8_drop h8 _), hdb, List.take_zero, List.nil_append, Nat.sub_zero, Nat.zero_add, List.drop_replicate]; rfl
    obtain ⟨_, T24⟩ := Hold.kept H16 5 rfl (show (lv, lds.take m) ∈ (lv, lds.take m) :: pl from List.mem_cons_self)
    refine sk (sq (bl (sq (rg (r (mv y61) ?_)))))
    obtain ⟨c64_25, ad64_25, k64_25, e64_25, p64_25⟩ := Kd.R.place T24 i (by omega)
    refine r (ix (j := i) Tryz.underlying86 ti2 (y59.trans e64_25) y61 (by omega)) (r (Rn.cast (v' := .int .i64 ((k : Int) + 1)) (ld Tryz.underlying2 rfl rfl p64_25.cell) (congrArg (Value.int .i64) hgl)) (r (sa rfl) (r (sa rfl) (re (sq (rg (ef (xal ti71) ?_)))))))
    rintro _ w26 ⟨g12, e26, rfl, -, b26, c26⟩
    have H17 : Hold w F w26 [rB ge 60 ((eC s b gp gw gd tv qn a2 us2 op2 gl gk)), rPl gp (logs s b + s * b) rd2, rR kE 115 tv tab2, rMW gw (wk.map kfP), rMW gd (du.map kfP), rPool 2 ((lv, lds.take m) :: pl), rB gl 2 ([.int .i64 (-1)]), rB g6 42 ([.int .i64 0, .string ⟨#[]⟩, .slice none 0 0, .int .i64 0, .int .i64 0, .int .i64 0, .int .i64 0, .int .i64 0, .int .i64 0]), rB g9 91 ([.int .i64 lid, .string nm, .int .i64 (dt.size : Int), lv]), rB g12 71 (byts (List.replicate 64 0))] := Hold.newB H16 e26 b26 c26
    clear H16
    clear e26 b26 c26
    refine re (sq ?_)
    refine rde mixed ?_
    intro w27 c27
    have H18 : Hold w F w27 [rB ge 60 ((eC s b gp gw gd tv qn a2 us2 op2 gl gk)), rPl gp (logs s b + s * b) rd2, rR kE 115 tv tab2, rMW gw (wk.map kfP), rMW gd (du.map kfP), rPool 2 ((lv, lds.take m) :: pl), rB gl 2 ([.int .i64 (-1)]), rB g6 42 ([.int .i64 0, .string ⟨#[]⟩, .slice none 0 0, .int .i64 0, .int .i64 0, .int .i64 0, .int .i64 0, .int .i64 0, .int .i64 0]), rB g9 91 ([.int .i64 lid, .string nm, .int .i64 (dt.size : Int), lv]), rB g12 71 (byts (List.replicate 64 0))] := Hold.t H17 c27
    clear H17
    clear c27
    have H19 : Hold w F w27 [rB g12 71 (byts (List.replicate 64 0)), rB ge 60 ((eC s b gp gw gd tv qn a2 us2 op2 gl gk)), rPl gp (logs s b + s * b) rd2, rR kE 115 tv tab2, rMW gw (wk.map kfP), rMW gd (du.map kfP), rPool 2 ((lv, lds.take m) :: pl), rB gl 2 ([.int .i64 (-1)]), rB g6 42 ([.int .i64 0, .string ⟨#[]⟩, .slice none 0 0, .int .i64 0, .int .i64 0, .int .i64 0, .int .i64 0, .int .i64 0, .int .i64 0]), rB g9 91 ([.int .i64 lid, .string nm, .int .i64 (dt.size : Int), lv])] := Hold.re H18 [9, 0, 1, 2, 3, 4, 5, 6, 7, 8] (by kernel_rfl) (by rfl)
    clear H18
    obtain ⟨Fd28, hFd28, nd28, Kd28, Xd28, sd28⟩ := Hold.frontx (Γ := [rB g12 71 (byts (List.replicate 64 0))]) (Δ := [rB ge 60 ((eC s b gp gw gd tv qn a2 us2 op2 gl gk)), rPl gp (logs s b + s * b) rd2, rR kE 115 tv tab2, rMW gw (wk.map kfP), rMW gd (du.map kfP), rPool 2 ((lv, lds.take m) :: pl), rB gl 2 ([.int .i64 (-1)]), rB g6 42 ([.int .i64 0, .string ⟨#[]⟩, .slice none 0 0, .int .i64 0, .int .i64 0, .int .i64 0, .int .i64 0, .int .i64 0, .int .i64 0]), rB g9 91 ([.int .i64 lid, .string nm, .int .i64 (dt.size : Int), lv])]) H19
    have H28d0 : Hold w27 Fd28 w27 [rB g12 71 (byts (List.replicate 64 0))] := Hold.begin hFd28 nd28
    refine ⟨fun w' => Ch Fd28 w27 w', Ch.refl _ _, ?_⟩
    have H20 : Hold w F w27 [rB g12 71 (byts (List.replicate 64 0)), rB ge 60 ((eC s b gp gw gd tv qn a2 us2 op2 gl gk)), rPl gp (logs s b + s * b) rd2, rR kE 115 tv tab2, rMW gw (wk.map kfP), rMW gd (du.map kfP), rPool 2 ((lv, lds.take m) :: pl), rB gl 2 ([.int .i64 (-1)]), rB g6 42 ([.int .i64 0, .string ⟨#[]⟩, .slice none 0 0, .int .i64 0, .int .i64 0, .int .i64 0, .int .i64 0, .int .i64 0, .int .i64 0]), rB g9 91 ([.int .i64 lid, .string nm, .int .i64 (dt.size : Int), lv])] := Hold.call Kd28 H28d0
    clear H28d0 H19
    have b29 : B w27 g12 71 (byts (List.replicate 64 0)) := Hold.blk H20 0 rfl
    refine edt 0 rfl (by kernel_rfl) (fun w' hS => sla Tryz.underlying71 ti5 rfl) (edt 1 rfl (by kernel_rfl) (fun w' hS => mv y2) (edt 2 rfl (by kernel_rfl) (fun w' hS => mv rfl) (edt 3 rfl (by kernel_rfl) (fun w' hS => ml (a := (i : Int)) (b := 64) (((i * 64 : Nat) : Int)) rfl rfl (by omega)) (edt 4 rfl (by kernel_rfl) (fun w' hS => ssl (i * 64) Tryz.underlying9 rfl rfl (by rw [hm] at hi'; unfold mN at hi'; omega)) (ed1 5 (by kernel_rfl) <| euf rfl (cpas (l := 0) (m := 64) Tryz.underlying22 ti5 ((rfl : _ = Value.slice (some ⟨g12, 0, none⟩) 64 64).trans (by simp [slv, Addr.add])) rfl b29 ⟨(by simp), by omega⟩) ?_)))))
    rintro _ w30 ⟨rfl, -, b30, c30⟩
    have H21 : Hold w F w30 [rB g12 71 (byts ((List.replicate 64 0).take 0 ++ (nums8 (mkS ((nums8 dt).drop (i * 64)))).take (64 - 0) ++ (List.replicate 64 0).drop (0 + (nums8 (mkS ((nums8 dt).drop (i * 64)))).length))), rB ge 60 ((eC s b gp gw gd tv qn a2 us2 op2 gl gk)), rPl gp (logs s b + s * b) rd2, rR kE 115 tv tab2, rMW gw (wk.map kfP), rMW gd (du.map kfP), rPool 2 ((lv, lds.take m) :: pl), rB gl 2 ([.int .i64 (-1)]), rB g6 42 ([.int .i64 0, .string ⟨#[]⟩, .slice none 0 0, .int .i64 0, .int .i64 0, .int .i64 0, .int .i64 0, .int .i64 0, .int .i64 0]), rB g9 91 ([.int .i64 lid, .string nm, .int .i64 (dt.size : Int), lv])] := Hold.setB H20 0 rfl b30 c30 rfl
    clear H20
    clear b30 c30
    refine ⟨.inl (by kernel_rfl), ?_⟩
    refine edd (by kernel_rfl) ?_
    refine gen (fun ρ => ρ 0 = .pointer (some ⟨ge, 0, none⟩) ∧ ρ 1 = .string nm ∧ ρ 2 = .string dt ∧ ρ 6 = .pointer (some ⟨g6, 0, none⟩) ∧ ρ 9 = .pointer (some ⟨g9, 0, none⟩) ∧ ρ 11 = .int .i64 ((k : Int) + 1) ∧ ρ 12 = .pointer (some ⟨g12, 0, none⟩) ∧ ρ 59 = lv ∧ ρ 60 = .int .i64 (m : Int) ∧ ρ 61 = .int .i64 (i : Int) ∧ True) ⟨y0, y1, y2, y6, y9, rfl, rfl, y59, y60, y61, trivial⟩ ?_
    rintro ρ ⟨z0, z1, z2, z6, z9, z11, z12, z59, z60, z61, -⟩
    have b31 : B w30 g12 71 (byts ((List.replicate 64 0).take 0 ++ (nums8 (mkS ((nums8 dt).drop (i * 64)))).take (64 - 0) ++ (List.replicate 64 0).drop (0 + (nums8 (mkS ((nums8 dt).drop (i * 64)))).length))) := Hold.blk H21 0 rfl
    refine rg (r (mv z0) (r (mv z11) (r (Rn.cast (v' := .agg (byts (DB i)).toArray) (laa Tryz.underlying71 rfl ti71 z12 b31 (by simp; omega)) (congrArg (fun z => Value.agg (byts z).toArray) e12)) ?_)))
    have H22 : Hold w F w30 [rB ge 60 ((eC s b gp gw gd tv qn a2 us2 op2 gl gk)), rPl gp (logs s b + s * b) rd2, rR kE 115 tv tab2, rB gl 2 ([.int .i64 (-1)]), rB g12 71 (byts ((List.replicate 64 0).take 0 ++ (nums8 (mkS ((nums8 dt).drop (i * 64)))).take (64 - 0) ++ (List.replicate 64 0).drop (0 + (nums8 (mkS ((nums8 dt).drop (i * 64)))).length))), rMW gw (wk.map kfP), rMW gd (du.map kfP), rPool 2 ((lv, lds.take m) :: pl), rB g6 42 ([.int .i64 0, .string ⟨#[]⟩, .slice none 0 0, .int .i64 0, .int .i64 0, .int .i64 0, .int .i64 0, .int .i64 0, .int .i64 0]), rB g9 91 ([.int .i64 lid, .string nm, .int .i64 (dt.size : Int), lv])] := Hold.re H21 [1, 2, 3, 7, 0, 4, 5, 6, 8, 9] (by kernel_rfl) (by rfl)
    clear H21
    obtain ⟨F32, hF32, n32, s32, K32⟩ := Hold.front (Γ := [rB ge 60 ((eC s b gp gw gd tv qn a2 us2 op2 gl gk)), rPl gp (logs s b + s * b) rd2, rR kE 115 tv tab2, rB gl 2 ([.int .i64 (-1)])]) (Δ := [rB g12 71 (byts ((List.replicate 64 0).take 0 ++ (nums8 (mkS ((nums8 dt).drop (i * 64)))).take (64 - 0) ++ (List.replicate 64 0).drop (0 + (nums8 (mkS ((nums8 dt).drop (i * 64)))).length))), rMW gw (wk.map kfP), rMW gd (du.map kfP), rPool 2 ((lv, lds.take m) :: pl), rB g6 42 ([.int .i64 0, .string ⟨#[]⟩, .slice none 0 0, .int .i64 0, .int .i64 0, .int .i64 0, .int .i64 0, .int .i64 0, .int .i64 0]), rB g9 91 ([.int .i64 lid, .string nm, .int .i64 (dt.size : Int), lv])]) H22
    refine cl go125 (eng_append (a' := a') (u' := u') (lid := ((k : Int) + 1)) hF32 n32 hg lt2 hDl hA ha hu2 ⟨by omega, by omega⟩) (ac rfl (ac rfl (ac rfl (ac rfl an)))) ?_
    rintro _ wa ⟨op3, Ha⟩
    have H23 : Hold w F wa [rB ge 60 ((eC s b gp gw gd tv qn a' (u' + 1) op3 gl gk)), rPl gp (logs s b + s * b) (upR rd2 (logs s b + a' * b + u') (DB i)), rR kE 115 tv (tab2.set (((k : Int) + 1) - 1).toNat (logs s b + a' * b + u', false)), rB gl 2 ([.int .i64 (-1)]), rB g12 71 (byts ((List.replicate 64 0).take 0 ++ (nums8 (mkS ((nums8 dt).drop (i * 64)))).take (64 - 0) ++ (List.replicate 64 0).drop (0 + (nums8 (mkS ((nums8 dt).drop (i * 64)))).length))), rMW gw (wk.map kfP), rMW gd (du.map kfP), rPool 2 ((lv, lds.take m) :: pl), rB g6 42 ([.int .i64 0, .string ⟨#[]⟩, .slice none 0 0, .int .i64 0, .int .i64 0, .int .i64 0, .int .i64 0, .int .i64 0, .int .i64 0]), rB g9 91 ([.int .i64 lid, .string nm, .int .i64 (dt.size : Int), lv])] := Hold.call K32 Ha
    clear H22
    clear K32 hF32 n32 s32
    clear Ha
    refine re (be (rg (r (ad (a := (i : Int)) (b := 1) ((i : Int) + 1) z61 rfl (by omega)) (r (mv rfl) (re ?_)))))
    have H24 : Hold w F wa [rB ge 60 ((eC s b gp gw gd tv qn a' (u' + 1) op3 gl gk)), rPl gp (logs s b + s * b) (upR rd2 (logs s b + a' * b + u') (DB i)), rR kE 115 tv (tab2.set k (logs s b + a' * b + u', false)), rB gl 2 ([.int .i64 (-1)]), rB g12 71 (byts ((List.replicate 64 0).take 0 ++ (nums8 (mkS ((nums8 dt).drop (i * 64)))).take (64 - 0) ++ (List.replicate 64 0).drop (0 + (nums8 (mkS ((nums8 dt).drop (i * 64)))).length))), rMW gw (wk.map kfP), rMW gd (du.map kfP), rPool 2 ((lv, lds.take m) :: pl), rB g6 42 ([.int .i64 0, .string ⟨#[]⟩, .slice none 0 0, .int .i64 0, .int .i64 0, .int .i64 0, .int .i64 0, .int .i64 0, .int .i64 0]), rB g9 91 ([.int .i64 lid, .string nm, .int .i64 (dt.size : Int), lv])] := (by rw [show ((k : Int) + 1 - 1).toNat = k by omega] at H23; exact H23)
    clear H23
    have H25 : Hold w F wa [rB ge 60 ((eC s b gp gw gd tv qn a' (u' + 1) op3 gl gk)), rPl gp (logs s b + s * b) (upR rd2 (logs s b + a' * b + u') (DB i)), rR kE 115 tv (tab2.set k (logs s b + a' * b + u', false)), rMW gw (wk.map kfP), rMW gd (du.map kfP), rPool 2 ((lv, lds.take m) :: pl), rB gl 2 ([.int .i64 (-1)]), rB g6 42 ([.int .i64 0, .string ⟨#[]⟩, .slice none 0 0, .int .i64 0, .int .i64 0, .int .i64 0, .int .i64 0, .int .i64 0, .int .i64 0]), rB g9 91 ([.int .i64 lid, .string nm, .int .i64 (dt.size : Int), lv])] := (show Hold w F wa ([rB ge 60 ((eC s b gp gw gd tv qn a' (u' + 1) op3 gl gk)), rPl gp (logs s b + s * b) (upR rd2 (logs s b + a' * b + u') (DB i)), rR kE 115 tv (tab2.set k (logs s b + a' * b + u', false)), rMW gw (wk.map kfP), rMW gd (du.map kfP), rPool 2 ((lv, lds.take m) :: pl), rB gl 2 ([.int .i64 (-1)]), rB g6 42 ([.int .i64 0, .string ⟨#[]⟩, .slice none 0 0, .int .i64 0, .int .i64 0, .int .i64 0, .int .i64 0, .int .i64 0, .int .i64 0]), rB g9 91 ([.int .i64 lid, .string nm, .int .i64 (dt.size : Int), lv])] ++ [rB g12 71 (byts ((List.replicate 64 0).take 0 ++ (nums8 (mkS ((nums8 dt).drop (i * 64)))).take (64 - 0) ++ (List.replicate 64 0).drop (0 + (nums8 (mkS ((nums8 dt).drop (i * 64)))).length)))]) from Hold.re H24 [0, 1, 2, 5, 6, 7, 3, 8, 9, 4] (by kernel_rfl) (by rfl)).drop
    clear H24
    exact ag (i + 1, op3, upR rd2 (logs s b + a' * b + u') (DB i), a', u' + 1, tab2.set k (logs s b + a' * b + u', false)) ⟨z0, z1, z2, z6, z9, z59, z60, rfl, H25, ⟨by omega, J'⟩⟩ (by first | omega | (dsimp only; omega))
  · have ei : i = m := by omega
    have hi2 : m < lds.length := by omega
    rw [ei] at J
    obtain ⟨a', u', k, hA, ha, hu2, hkl, hk, J'⟩ := J.step hg hf1 hi2 hlnd hlz true
    have lt2 : tab2.length ≤ 2000 := by rw [J.len]; omega
    rw [← hlid] at hkl
    have hdb : DB m = encI (nums8 nm) dt.size (lds.take m) := by rw [hDB]; unfold dbF; rw [if_neg (by rw [hnl, ← hm]; omega), hnl]
    have hDl : (DB m).length = 64 := by rw [hdb]; exact encI_len hino
    have hns : nm.size ≤ 9223372036854775807 := by have := hnm.2.2; rw [nums8_len] at this; omega
    refine ex rfl (sq ?_)
    refine rde mixed ?_
    intro w24 c24
    have H17 : Hold w F w24 [rB ge 60 ((eC s b gp gw gd tv qn a2 us2 op2 gl gk)), rPl gp (logs s b + s * b) rd2, rR kE 115 tv tab2, rMW gw (wk.map kfP), rMW gd (du.map kfP), rPool 2 ((lv, lds.take m) :: pl), rB gl 2 ([.int .i64 (-1)]), rB g6 42 ([.int .i64 0, .string ⟨#[]⟩, .slice none 0 0, .int .i64 0, .int .i64 0, .int .i64 0, .int .i64 0, .int .i64 0, .int .i64 0]), rB g9 91 ([.int .i64 lid, .string nm, .int .i64 (dt.size : Int), lv])] := Hold.t H16 c24
    clear H16
    clear c24
    have H18 : Hold w F w24 [rB ge 60 ((eC s b gp gw gd tv qn a2 us2 op2 gl gk)), rPl gp (logs s b + s * b) rd2, rR kE 115 tv tab2, rB gl 2 ([.int .i64 (-1)]), rMW gw (wk.map kfP), rMW gd (du.map kfP), rPool 2 ((lv, lds.take m) :: pl), rB g6 42 ([.int .i64 0, .string ⟨#[]⟩, .slice none 0 0, .int .i64 0, .int .i64 0, .int .i64 0, .int .i64 0, .int .i64 0, .int .i64 0]), rB g9 91 ([.int .i64 lid, .string nm, .int .i64 (dt.size : Int), lv])] := Hold.re H17 [0, 1, 2, 6, 3, 4, 5, 7, 8] (by kernel_rfl) (by rfl)
    clear H17
    obtain ⟨Fd25, hFd25, nd25, Kd25, Xd25, sd25⟩ := Hold.frontx (Γ := [rB ge 60 ((eC s b gp gw gd tv qn a2 us2 op2 gl gk)), rPl gp (logs s b + s * b) rd2, rR kE 115 tv tab2, rB gl 2 ([.int .i64 (-1)])]) (Δ := [rMW gw (wk.map kfP), rMW gd (du.map kfP), rPool 2 ((lv, lds.take m) :: pl), rB g6 42 ([.int .i64 0, .string ⟨#[]⟩, .slice none 0 0, .int .i64 0, .int .i64 0, .int .i64 0, .int .i64 0, .int .i64 0, .int .i64 0]), rB g9 91 ([.int .i64 lid, .string nm, .int .i64 (dt.size : Int), lv])]) H18
    have H25d0 : Hold w24 Fd25 w24 [rB ge 60 ((eC s b gp gw gd tv qn a2 us2 op2 gl gk)), rPl gp (logs s b + s * b) rd2, rR kE 115 tv tab2, rB gl 2 ([.int .i64 (-1)])] := Hold.begin hFd25 nd25
    refine ⟨fun w' => Ch Fd25 w24 w', Ch.refl _ _, ?_⟩
    obtain ⟨_, ⟨rfl, b26⟩, x26⟩ := Xd25 4 (rB g9 91 ([.int .i64 lid, .string nm, .int .i64 (dt.size : Int), lv])) rfl
    obtain ⟨Fp28, Pp28, xp28⟩ := Xd25 2 (rPool 2 ((lv, lds.take m) :: pl)) rfl
    obtain ⟨Gp28, T28, sp28⟩ := Hs.mem (r := rQ lv (lds.take m)) (show Hs w24 ( (_ : List (Value × List Int)).map _) _ from Pp28) (List.mem_map.2 ⟨(lv, lds.take m), (show (lv, lds.take m) ∈ (lv, lds.take m) :: pl from List.mem_cons_self), rfl⟩)
    replace T28 : (Kd.int .i64).R w24 Gp28 lv (lds.take m) := T28
    refine edt 0 rfl (by kernel_rfl) (fun w' hS => mv y0) (edt 1 rfl (by kernel_rfl) (fun w' hS => fa Tryz.underlying91 rfl ti2 rfl y9) (edt 2 rfl (by kernel_rfl) (fun w' hS => ldb Tryz.underlying2 rfl rfl (hS.b b26 (x26 _ (by simp))) rfl) (edt 3 rfl (by kernel_rfl) (fun w' hS => fa Tryz.underlying91 rfl ti89 rfl y9) (edt 4 rfl (by kernel_rfl) (fun w' hS => lab [.string nm, .int .i64 (dt.size : Int), lv] Tryz.underlying89 rfl ti89 rfl (hS.b b26 (x26 _ (by simp))) rfl rfl) (ed1 5 (by kernel_rfl) <| euc rfl go110 (ac rfl an) (Inode_block hns (T28.tt (Hold.ch H25d0) (fun k hk => xp28 k (sp28 k hk))) (by omega) hino) ?_)))))
    rintro r wi ⟨er, ci⟩
    rw [← hdb] at er
    subst er
    have H19d : Hold w24 Fd25 wi [rB ge 60 ((eC s b gp gw gd tv qn a2 us2 op2 gl gk)), rPl gp (logs s b + s * b) rd2, rR kE 115 tv tab2, rB gl 2 ([.int .i64 (-1)])] := Hold.t H25d0 ci
    clear H25d0
    clear ci
    refine ⟨.inr (Hold.ch H19d), ?_⟩
    have H20 : Hold w F wi [rB ge 60 ((eC s b gp gw gd tv qn a2 us2 op2 gl gk)), rPl gp (logs s b + s * b) rd2, rR kE 115 tv tab2, rB gl 2 ([.int .i64 (-1)]), rMW gw (wk.map kfP), rMW gd (du.map kfP), rPool 2 ((lv, lds.take m) :: pl), rB g6 42 ([.int .i64 0, .string ⟨#[]⟩, .slice none 0 0, .int .i64 0, .int .i64 0, .int .i64 0, .int .i64 0, .int .i64 0, .int .i64 0]), rB g9 91 ([.int .i64 lid, .string nm, .int .i64 (dt.size : Int), lv])] := Hold.call Kd25 H19d
    clear H19d H18
    obtain ⟨F29, hF29, n29, s29, K29⟩ := Hold.front (Γ := [rB ge 60 ((eC s b gp gw gd tv qn a2 us2 op2 gl gk)), rPl gp (logs s b + s * b) rd2, rR kE 115 tv tab2, rB gl 2 ([.int .i64 (-1)])]) (Δ := [rMW gw (wk.map kfP), rMW gd (du.map kfP), rPool 2 ((lv, lds.take m) :: pl), rB g6 42 ([.int .i64 0, .string ⟨#[]⟩, .slice none 0 0, .int .i64 0, .int .i64 0, .int .i64 0, .int .i64 0, .int .i64 0, .int .i64 0]), rB g9 91 ([.int .i64 lid, .string nm, .int .i64 (dt.size : Int), lv])]) H20
    refine ed1 6 (by kernel_rfl) <| euc rfl go125 (ac rfl (ac rfl (ac rfl (ac rfl an)))) (eng_append (a' := a') (u' := u') (lid := lid) hF29 n29 hg lt2 hDl hA ha hu2 ⟨by omega, by omega⟩) ?_
    rintro _ wa ⟨op3, Ha⟩
    have H21 : Hold w F wa [rB ge 60 ((eC s b gp gw gd tv qn a' (u' + 1) op3 gl gk)), rPl gp (logs s b + s * b) (upR rd2 (logs s b + a' * b + u') (DB m)), rR kE 115 tv (tab2.set (lid - 1).toNat (logs s b + a' * b + u', true)), rB gl 2 ([.int .i64 (-1)]), rMW gw (wk.map kfP), rMW gd (du.map kfP), rPool 2 ((lv, lds.take m) :: pl), rB g6 42 ([.int .i64 0, .string ⟨#[]⟩, .slice none 0 0, .int .i64 0, .int .i64 0, .int .i64 0, .int .i64 0, .int .i64 0, .int .i64 0]), rB g9 91 ([.int .i64 lid, .string nm, .int .i64 (dt.size : Int), lv])] := Hold.call K29 Ha
    clear H20
    clear K29 hF29 n29 s29
    clear Ha
    refine ⟨.inl (by kernel_rfl), ?_⟩
    refine edd (by kernel_rfl) ?_
    have H22 : Hold w F wa [rB ge 60 ((eC s b gp gw gd tv qn a' (u' + 1) op3 gl gk)), rMW gw (wk.map kfP), rMW gd (du.map kfP), rPl gp (logs s b + s * b) (upR rd2 (logs s b + a' * b + u') (DB m)), rR kE 115 tv (tab2.set (lid - 1).toNat (logs s b + a' * b + u', true)), rB gl 2 ([.int .i64 (-1)]), rPool 2 ((lv, lds.take m) :: pl), rB g6 42 ([.int .i64 0, .string ⟨#[]⟩, .slice none 0 0, .int .i64 0, .int .i64 0, .int .i64 0, .int .i64 0, .int .i64 0, .int .i64 0]), rB g9 91 ([.int .i64 lid, .string nm, .int .i64 (dt.size : Int), lv])] := Hold.re H21 [0, 4, 5, 1, 2, 3, 6, 7, 8] (by kernel_rfl) (by rfl)
    clear H21
    obtain ⟨F30, hF30, n30, s30, K30⟩ := Hold.front (Γ := [rB ge 60 ((eC s b gp gw gd tv qn a' (u' + 1) op3 gl gk)), rMW gw (wk.map kfP), rMW gd (du.map kfP)]) (Δ := [rPl gp (logs s b + s * b) (upR rd2 (logs s b + a' * b + u') (DB m)), rR kE 115 tv (tab2.set (lid - 1).toNat (logs s b + a' * b + u', true)), rB gl 2 ([.int .i64 (-1)]), rPool 2 ((lv, lds.take m) :: pl), rB g6 42 ([.int .i64 0, .string ⟨#[]⟩, .slice none 0 0, .int .i64 0, .int .i64 0, .int .i64 0, .int .i64 0, .int .i64 0, .int .i64 0]), rB g9 91 ([.int .i64 lid, .string nm, .int .i64 (dt.size : Int), lv])]) H22
    refine sq (rg (r (mv y0) (r (mv y1) (cl go94 (eng_forget hF30 n30 (.inl hno) how hod) (ac rfl (ac rfl an)) ?_))))
    rintro _ wg Hg
    have H23 : Hold w F wg [rB ge 60 ((eC s b gp gw gd tv qn a' (u' + 1) op3 gl gk)), rMW gw ((delK wk nm).map kfP), rMW gd (du.map kfP), rPl gp (logs s b + s * b) (upR rd2 (logs s b + a' * b + u') (DB m)), rR kE 115 tv (tab2.set (lid - 1).toNat (logs s b + a' * b + u', true)), rB gl 2 ([.int .i64 (-1)]), rPool 2 ((lv, lds.take m) :: pl), rB g6 42 ([.int .i64 0, .string ⟨#[]⟩, .slice none 0 0, .int .i64 0, .int .i64 0, .int .i64 0, .int .i64 0, .int .i64 0, .int .i64 0]), rB g9 91 ([.int .i64 lid, .string nm, .int .i64 (dt.size : Int), lv])] := Hold.call K30 Hg
    clear H22
    clear K30 hF30 n30 s30
    clear Hg
    refine re (sq ?_)
    refine gen (fun ρ => ρ 0 = .pointer (some ⟨ge, 0, none⟩) ∧ ρ 1 = .string nm ∧ ρ 6 = .pointer (some ⟨g6, 0, none⟩) ∧ ρ 9 = .pointer (some ⟨g9, 0, none⟩) ∧ True) ⟨y0, y1, y6, y9, trivial⟩ ?_
    rintro ρ ⟨z0, z1, z6, z9, -⟩
    refine rde mixed ?_
    intro w31 c31
    have H24 : Hold w F w31 [rB ge 60 ((eC s b gp gw gd tv qn a' (u' + 1) op3 gl gk)), rMW gw ((delK wk nm).map kfP), rMW gd (du.map kfP), rPl gp (logs s b + s * b) (upR rd2 (logs s b + a' * b + u') (DB m)), rR kE 115 tv (tab2.set (lid - 1).toNat (logs s b + a' * b + u', true)), rB gl 2 ([.int .i64 (-1)]), rPool 2 ((lv, lds.take m) :: pl), rB g6 42 ([.int .i64 0, .string ⟨#[]⟩, .slice none 0 0, .int .i64 0, .int .i64 0, .int .i64 0, .int .i64 0, .int .i64 0, .int .i64 0]), rB g9 91 ([.int .i64 lid, .string nm, .int .i64 (dt.size : Int), lv])] := Hold.t H23 c31
    clear H23
    clear c31
    have H32d0 : Hold w31 [] w31 [] := Hold.start w31
    refine ⟨fun w' => Ch [] w31 w', Ch.refl _ _, ?_⟩
    have b33 : B w31 ge 60 ((eC s b gp gw gd tv qn a' (u' + 1) op3 gl gk)) := Hold.blk H24 0 rfl
    have b34 : B w31 g9 91 ([.int .i64 lid, .string nm, .int .i64 (dt.size : Int), lv]) := Hold.blk H24 8 rfl
    have H25 : Hold w F w31 [rB ge 60 ((eC s b gp gw gd tv qn a' (u' + 1) op3 gl gk)), rMW gw ((delK wk nm).map kfP), rMW gd (du.map kfP), rPl gp (logs s b + s * b) (upR rd2 (logs s b + a' * b + u') (DB m)), rR kE 115 tv (tab2.set (lid - 1).toNat (logs s b + a' * b + u', true)), rB gl 2 ([.int .i64 (-1)]), rPool 2 ((lv, lds.take m) :: pl), rB g6 42 ([.int .i64 0, .string ⟨#[]⟩, .slice none 0 0, .int .i64 0, .int .i64 0, .int .i64 0, .int .i64 0, .int .i64 0, .int .i64 0]), rB g9 91 ([.int .i64 lid, .string nm, .int .i64 (dt.size : Int), lv])] := Hold.news H24 H32d0
    clear H32d0 H24
    have b35 : MpW w31 gw ((delK wk nm).map kfP) := Hold.mpw H25 1 rfl
    refine edt 0 rfl (by kernel_rfl) (fun w' hS => mv z0) (edt 1 rfl (by kernel_rfl) (fun w' hS => nck rfl) (edt 2 rfl (by kernel_rfl) (fun w' hS => fa Tryz.underlying60 rfl ti56 rfl rfl) (edt 3 rfl (by kernel_rfl) (fun w' hS => fa Tryz.underlying56 rfl ti54 rfl rfl) (edt 4 rfl (by kernel_rfl) (fun w' hS => fa Tryz.underlying54 rfl ti52 rfl rfl) (edt 5 rfl (by kernel_rfl) (fun w' hS => ldb Tryz.underlying52 rfl rfl (hS.b0 b33) rfl) (edt 6 rfl (by kernel_rfl) (fun w' hS => mv z1) (edt 7 rfl (by kernel_rfl) (fun w' hS => lab [.int .i64 lid, .string nm, .int .i64 (dt.size : Int), lv] Tryz.underlying91 rfl ti91 z9 (hS.b0 b34) rfl rfl) (ed1 8 (by kernel_rfl) <| euf0 rfl (xmuw (v := .agg #[.int .i64 lid, .string nm, .int .i64 (dt.size : Int), lv]) Tryz.underlying52 Tryz.underlying9 rfl rfl rfl b35) ?_))))))))
    rintro w36 ⟨b36, c36⟩
    have H26 : Hold w F w36 [rB ge 60 ((eC s b gp gw gd tv qn a' (u' + 1) op3 gl gk)), rMW gw (updS ((delK wk nm).map kfP) nm (.agg #[.int .i64 lid, .string nm, .int .i64 (dt.size : Int), lv])), rMW gd (du.map kfP), rPl gp (logs s b + s * b) (upR rd2 (logs s b + a' * b + u') (DB m)), rR kE 115 tv (tab2.set (lid - 1).toNat (logs s b + a' * b + u', true)), rB gl 2 ([.int .i64 (-1)]), rPool 2 ((lv, lds.take m) :: pl), rB g6 42 ([.int .i64 0, .string ⟨#[]⟩, .slice none 0 0, .int .i64 0, .int .i64 0, .int .i64 0, .int .i64 0, .int .i64 0, .int .i64 0]), rB g9 91 ([.int .i64 lid, .string nm, .int .i64 (dt.size : Int), lv])] := Hold.setMW H25 1 rfl b36 c36 rfl
    clear H25
    clear b36 c36
    refine ⟨.inl (by kernel_rfl), ?_⟩
    refine edd (by kernel_rfl) ?_
    have b37 : B w36 g6 42 ([.int .i64 0, .string ⟨#[]⟩, .slice none 0 0, .int .i64 0, .int .i64 0, .int .i64 0, .int .i64 0, .int .i64 0, .int .i64 0]) := Hold.blk H26 7 rfl
    refine sq (rg (r (bd (r := [.int .i64 0, .string ⟨#[]⟩, .slice none 0 0, .int .i64 0, .int .i64 0, .int .i64 0, .int .i64 0, .int .i64 0, .int .i64 0]) ti42 pl42 pn rfl) (ef0 (xst (vs := [.int .i64 0, .string ⟨#[]⟩, .slice none 0 0, .int .i64 0, .int .i64 0, .int .i64 0, .int .i64 0, .int .i64 0, .int .i64 0]) ti42 z6 rfl rfl b37 rfl (Nat.le_of_ble_eq_true rfl) (one_all rfl)) ?_)))
    rintro w38 ⟨-, b38, c38⟩
    have H27 : Hold w F w38 [rB ge 60 ((eC s b gp gw gd tv qn a' (u' + 1) op3 gl gk)), rMW gw (updS ((delK wk nm).map kfP) nm (.agg #[.int .i64 lid, .string nm, .int .i64 (dt.size : Int), lv])), rMW gd (du.map kfP), rPl gp (logs s b + s * b) (upR rd2 (logs s b + a' * b + u') (DB m)), rR kE 115 tv (tab2.set (lid - 1).toNat (logs s b + a' * b + u', true)), rB gl 2 ([.int .i64 (-1)]), rPool 2 ((lv, lds.take m) :: pl), rB g6 42 ([.int .i64 0, .string ⟨#[]⟩, .slice none 0 0, .int .i64 0, .int .i64 0, .int .i64 0, .int .i64 0, .int .i64 0, .int .i64 0]), rB g9 91 ([.int .i64 lid, .string nm, .int .i64 (dt.size : Int), lv])] := Hold.setB H26 7 rfl b38 c38 rfl
    clear H26
    clear b38 c38
    refine re (rt ?_)
    have eW : updS ((delK wk nm).map kfP) nm (.agg #[.int .i64 lid, .string nm, .int .i64 (dt.size : Int), lv]) = (wk ++ [(⟨lid, nm, dt.size, lv, lds.take m⟩ : Kf)]).map kfP := by rw [delK_none hno]; exact upd_kf wk (⟨lid, nm, dt.size, lv, lds.take m⟩ : Kf) hno
    have H28 : Hold w F w38 [rB ge 60 ((eC s b gp gw gd tv qn a' (u' + 1) op3 gl gk)), rMW gw ((wk ++ [(⟨lid, nm, dt.size, lv, lds.take m⟩ : Kf)]).map kfP), rMW gd (du.map kfP), rPl gp (logs s b + s * b) (upR rd2 (logs s b + a' * b + u') (DB m)), rR kE 115 tv (tab2.set (lid - 1).toNat (logs s b + a' * b + u', true)), rB gl 2 ([.int .i64 (-1)]), rPool 2 ((lv, lds.take m) :: pl), rB g6 42 ([.int .i64 0, .string ⟨#[]⟩, .slice none 0 0, .int .i64 0, .int .i64 0, .int .i64 0, .int .i64 0, .int .i64 0, .int .i64 0]), rB g9 91 ([.int .i64 lid, .string nm, .int .i64 (dt.size : Int), lv])] := (by rw [eW] at H27; exact H27)
    clear H27
    have H29 : Hold w F w38 [rB ge 60 ((eC s b gp gw gd tv qn a' (u' + 1) op3 gl gk)), rMW gw ((wk ++ [(⟨lid, nm, dt.size, lv, lds.take m⟩ : Kf)]).map kfP), rMW gd (du.map kfP), rPl gp (logs s b + s * b) (upR rd2 (logs s b + a' * b + u') (DB m)), rR kE 115 tv (tab2.set k (logs s b + a' * b + u', true)), rB gl 2 ([.int .i64 (-1)]), rPool 2 ((lv, lds.take m) :: pl), rB g6 42 ([.int .i64 0, .string ⟨#[]⟩, .slice none 0 0, .int .i64 0, .int .i64 0, .int .i64 0, .int .i64 0, .int .i64 0, .int .i64 0]), rB g9 91 ([.int .i64 lid, .string nm, .int .i64 (dt.size : Int), lv])] := (by rw [show (lid - 1).toNat = k by omega] at H28; exact H28)
    clear H28
    have b39 : B w38 g6 42 ([.int .i64 0, .string ⟨#[]⟩, .slice none 0 0, .int .i64 0, .int .i64 0, .int .i64 0, .int .i64 0, .int .i64 0, .int .i64 0]) := Hold.blk H29 7 rfl
    have H30 : Hold w F w38 [rB ge 60 ((eC s b gp gw gd tv qn a' (u' + 1) op3 gl gk)), rPl gp (logs s b + s * b) (upR rd2 (logs s b + a' * b + u') (DB m)), rR kE 115 tv (tab2.set k (logs s b + a' * b + u', true)), rMW gw ((wk ++ [(⟨lid, nm, dt.size, lv, lds.take m⟩ : Kf)]).map kfP), rMW gd (du.map kfP), rPool 2 ((lv, lds.take m) :: pl), rB gl 2 ([.int .i64 (-1)])] := (show Hold w F w38 ([rB ge 60 ((eC s b gp gw gd tv qn a' (u' + 1) op3 gl gk)), rPl gp (logs s b + s * b) (upR rd2 (logs s b + a' * b + u') (DB m)), rR kE 115 tv (tab2.set k (logs s b + a' * b + u', true)), rMW gw ((wk ++ [(⟨lid, nm, dt.size, lv, lds.take m⟩ : Kf)]).map kfP), rMW gd (du.map kfP), rPool 2 ((lv, lds.take m) :: pl), rB gl 2 ([.int .i64 (-1)])] ++ [rB g6 42 ([.int .i64 0, .string ⟨#[]⟩, .slice none 0 0, .int .i64 0, .int .i64 0, .int .i64 0, .int .i64 0, .int .i64 0, .int .i64 0]), rB g9 91 ([.int .i64 lid, .string nm, .int .i64 (dt.size : Int), lv])]) from Hold.re H29 [0, 3, 4, 1, 2, 6, 5, 7, 8] (by kernel_rfl) (by rfl)).drop
    clear H29
    exact finc  (cs := [.int .i64 0, .string ⟨#[]⟩, .slice none 0 0, .int .i64 0, .int .i64 0, .int .i64 0, .int .i64 0, .int .i64 0, .int .i64 0]) Tryz.results91 Tryz.underlying42 rfl ti42 z6 b39 rfl  ⟨_, _, _, _, _, (⟨lid, nm, dt.size, lv, lds.take m⟩ : Kf), rfl, ⟨rfl, rfl, hLV, hltk.trans hm, by rw [← hm, show ((⟨lid, nm, dt.size, lv, lds.take m⟩ : Kf)).ls ++ [((⟨lid, nm, dt.size, lv, lds.take m⟩ : Kf)).lid] = lds from hlsm, show dbF (nums8 dt) (nums8 nm) ((⟨lid, nm, dt.size, lv, lds.take m⟩ : Kf)).ls = DB from hDB.symm, ← hf0]; exact J', by rw [show ((⟨lid, nm, dt.size, lv, lds.take m⟩ : Kf)).ls ++ [((⟨lid, nm, dt.size, lv, lds.take m⟩ : Kf)).lid] = lds from hlsm]; exact ⟨hlnd, hlz⟩⟩, H30⟩
theorem eng_writeFile_no {w : World} {G : List Nat} {ge gp gw gd gl gk : Nat} {tv : Value} {s b qn actv usd opn : Int} {tab : List (Int × Bool)} {nm dt : ByteArray} {ck cz : Int} (hB : B w ge 60 (eC s b gp gw gd tv qn actv usd opn gl gk)) (hT : kE.R w G tv tab) (lt : tab.length ≤ 2000) (hg : geo s b) (hsz : dt.size ≤ 1408) (hcap : s * b - 2 * b < usedN tab + (mN dt.size + 1 : Nat)) : Ret Tryz.prog 53 #[.pointer (some ⟨ge, 0, none⟩), .agg #[.int .i64 ck, .string nm, .string dt, .int .i64 cz]] w (fun r w' => r = ansV 24 noB ∧ Ch [] w w') := by
  refine enter Tryz.func53 rfl Tryz.ntmps53 (by rfl) (by rfl) ?_
  have H0 : Hold w [] w [] := Hold.start w
  refine sq (rg (ef (xbx (t := 29) rfl rfl) ?_))
  rintro _ w1 ⟨g3, e1, rfl, -, b1, c1⟩
  have H1 : Hold w [] w1 [rB g3 29 ([.int .i64 ck, .string nm, .string dt, .int .i64 cz])] := Hold.newB H0 e1 b1 c1
  clear H0
  clear e1 b1 c1
  refine ef (xal ti42) ?_
  rintro _ w2 ⟨g4, e2, rfl, -, b2, c2⟩
  have H2 : Hold w [] w2 [rB g3 29 ([.int .i64 ck, .string nm, .string dt, .int .i64 cz]), rB g4 42 ([.int .i64 0, .string ⟨#[]⟩, .slice none 0 0, .int .i64 0, .int .i64 0, .int .i64 0, .int .i64 0, .int .i64 0, .int .i64 0])] := Hold.newB H1 e2 b2 c2
  clear H1
  clear e2 b2 c2
  have b3 : B w2 g3 29 ([.int .i64 ck, .string nm, .string dt, .int .i64 cz]) := Hold.blk H2 0 rfl
  refine re (sq (rg (r (mv rfl) (r (fa Tryz.underlying29 rfl ti9 rfl rfl) (r (ldb Tryz.underlying9 rfl rfl b3 rfl) (r (fa Tryz.underlying29 rfl ti9 rfl rfl) (r (ldb Tryz.underlying9 rfl rfl b3 rfl) (cl go91 (eng_store_no ((Hold.ch H2).b0 hB) (hT.t (Hold.ch H2)) lt hg hsz hcap) (ac rfl (ac rfl (ac rfl an))) ?_))))))))
  rintro r ws ⟨rfl, cs9⟩
  have H3 : Hold w [] ws [rB g3 29 ([.int .i64 ck, .string nm, .string dt, .int .i64 cz]), rB g4 42 ([.int .i64 0, .string ⟨#[]⟩, .slice none 0 0, .int .i64 0, .int .i64 0, .int .i64 0, .int .i64 0, .int .i64 0, .int .i64 0])] := Hold.t H2 cs9
  clear H2
  clear cs9
  have b5 : B ws g4 42 ([.int .i64 0, .string ⟨#[]⟩, .slice none 0 0, .int .i64 0, .int .i64 0, .int .i64 0, .int .i64 0, .int .i64 0, .int .i64 0]) := Hold.blk H3 1 rfl
  refine ef0 (xst (vs := [.int .i64 24, .string noB, .slice none 0 0, .int .i64 0, .int .i64 0, .int .i64 0, .int .i64 0, .int .i64 0, .int .i64 0]) ti42 rfl rfl rfl b5 rfl (Nat.le_of_ble_eq_true rfl) (one_all rfl)) ?_
  rintro w6 ⟨-, b6, c6⟩
  have H4 : Hold w [] w6 [rB g3 29 ([.int .i64 ck, .string nm, .string dt, .int .i64 cz]), rB g4 42 ([.int .i64 24, .string noB, .slice none 0 0, .int .i64 0, .int .i64 0, .int .i64 0, .int .i64 0, .int .i64 0, .int .i64 0])] := Hold.setB H3 1 rfl b6 c6 rfl
  clear H3
  clear b6 c6
  refine re (rt ?_)
  have b7 : B w6 g4 42 ([.int .i64 24, .string noB, .slice none 0 0, .int .i64 0, .int .i64 0, .int .i64 0, .int .i64 0, .int .i64 0, .int .i64 0]) := Hold.blk H4 1 rfl
  exact finc  (cs := [.int .i64 24, .string noB, .slice none 0 0, .int .i64 0, .int .i64 0, .int .i64 0, .int .i64 0, .int .i64 0, .int .i64 0]) Tryz.results53 Tryz.underlying42 rfl ti42 rfl b7 rfl  ⟨rfl, Hold.ch H4⟩
theorem eng_writeFile_ok {w : World} {F : List Nat} {ge gp gw gd gl gk : Nat} {tv : Value} {s b qn actv usd opn : Int} {rdf : Int → List Int} {tab : List (Int × Bool)} {wk du : List Kf} {pl : List (Value × List Int)} {nm dt : ByteArray} {ck cz : Int} (h : Hs w [rB ge 60 ((eC s b gp gw gd tv qn actv usd opn gl gk)), rPl gp (logs s b + s * b) rdf, rR kE 115 tv tab, rMW gw (wk.map kfP), rMW gd (du.map kfP), rPool 2 pl, rB gl 2 ([.int .i64 (-1)])] F) (nd : F.Nodup) (hg : geo s b) (hsz : dt.size ≤ 1408) (hnm : okName (nums8 nm)) (hL : Lg s b tab actv usd) (hcap : usedN tab + (mN dt.size + 1 : Nat) ≤ s * b - 2 * b) (hfr : ((mN dt.size + 1 : Nat) : Int) + b ≤ freeF (segCounts tab s b) actv usd b) (hno : findK wk nm = none) (how : ∀ k, k ∈ wk → k.lv.oneCell' = true) (hod : ∀ k, k ∈ du → k.lv.oneCell' = true) :
    Ret Tryz.prog 53 #[.pointer (some ⟨ge, 0, none⟩), .agg #[.int .i64 ck, .string nm, .string dt, .int .i64 cz]] w (fun r w' => ∃ op' rd' a' us' tab' k, r = ansV 0 noB ∧ StR s b (freeF (segCounts tab s b) actv usd b) tab rdf nm dt tab' rd' a' us' k ∧ Hold w F w' [rB ge 60 ((eC s b gp gw gd tv qn a' us' op' gl gk)), rPl gp (logs s b + s * b) rd', rR kE 115 tv tab', rMW gw ((wk ++ [k]).map kfP), rMW gd (du.map kfP), rPool 2 ((k.lv, k.ls) :: pl), rB gl 2 ([.int .i64 (-1)])]) := by
  refine enter Tryz.func53 rfl Tryz.ntmps53 (by rfl) (by rfl) ?_
  have H0 : Hold w F w [rB ge 60 ((eC s b gp gw gd tv qn actv usd opn gl gk)), rPl gp (logs s b + s * b) rdf, rR kE 115 tv tab, rMW gw (wk.map kfP), rMW gd (du.map kfP), rPool 2 pl, rB gl 2 ([.int .i64 (-1)])] := Hold.begin h nd
  refine sq (rg (ef (xbx (t := 29) rfl rfl) ?_))
  rintro _ w1 ⟨g3, e1, rfl, -, b1, c1⟩
  have H1 : Hold w F w1 [rB ge 60 ((eC s b gp gw gd tv qn actv usd opn gl gk)), rPl gp (logs s b + s * b) rdf, rR kE 115 tv tab, rMW gw (wk.map kfP), rMW gd (du.map kfP), rPool 2 pl, rB gl 2 ([.int .i64 (-1)]), rB g3 29 ([.int .i64 ck, .string nm, .string dt, .int .i64 cz])] := Hold.newB H0 e1 b1 c1
  clear H0
  clear e1 b1 c1
  refine ef (xal ti42) ?_
  rintro _ w2 ⟨g4, e2, rfl, -, b2, c2⟩
  have H2 : Hold w F w2 [rB ge 60 ((eC s b gp gw gd tv qn actv usd opn gl gk)), rPl gp (logs s b + s * b) rdf, rR kE 115 tv tab, rMW gw (wk.map kfP), rMW gd (du.map kfP), rPool 2 pl, rB gl 2 ([.int .i64 (-1)]), rB g3 29 ([.int .i64 ck, .string nm, .string dt, .int .i64 cz]), rB g4 42 ([.int .i64 0, .string ⟨#[]⟩, .slice none 0 0, .int .i64 0, .int .i64 0, .int .i64 0, .int .i64 0, .int .i64 0, .int .i64 0])] := Hold.newB H1 e2 b2 c2
  clear H1
  clear e2 b2 c2
  have b3 : B w2 g3 29 ([.int .i64 ck, .string nm, .string dt, .int .i64 cz]) := Hold.blk H2 7 rfl
  obtain ⟨F4, hF4, n4, s4, K4⟩ := Hold.front (Γ := [rB ge 60 ((eC s b gp gw gd tv qn actv usd opn gl gk)), rPl gp (logs s b + s * b) rdf, rR kE 115 tv tab, rMW gw (wk.map kfP), rMW gd (du.map kfP), rPool 2 pl, rB gl 2 ([.int .i64 (-1)])]) (Δ := [rB g3 29 ([.int .i64 ck, .string nm, .string dt, .int .i64 cz]), rB g4 42 ([.int .i64 0, .string ⟨#[]⟩, .slice none 0 0, .int .i64 0, .int .i64 0, .int .i64 0, .int .i64 0, .int .i64 0, .int .i64 0])]) H2
  refine re (sq (rg (r (mv rfl) (r (fa Tryz.underlying29 rfl ti9 rfl rfl) (r (ldb Tryz.underlying9 rfl rfl b3 rfl) (r (fa Tryz.underlying29 rfl ti9 rfl rfl) (r (ldb Tryz.underlying9 rfl rfl b3 rfl) (cl go91 (eng_store_ok hF4 n4 hg hsz hnm hL hcap hfr hno how hod) (ac rfl (ac rfl (ac rfl an))) ?_))))))))
  rintro _ ws ⟨op', rd', a', us', tab', k, rfl, hS, Hs1⟩
  have H3 : Hold w F ws [rB ge 60 ((eC s b gp gw gd tv qn a' us' op' gl gk)), rPl gp (logs s b + s * b) rd', rR kE 115 tv tab', rMW gw ((wk ++ [k]).map kfP), rMW gd (du.map kfP), rPool 2 ((k.lv, k.ls) :: pl), rB gl 2 ([.int .i64 (-1)]), rB g3 29 ([.int .i64 ck, .string nm, .string dt, .int .i64 cz]), rB g4 42 ([.int .i64 0, .string ⟨#[]⟩, .slice none 0 0, .int .i64 0, .int .i64 0, .int .i64 0, .int .i64 0, .int .i64 0, .int .i64 0])] := Hold.call K4 Hs1
  clear H2
  clear K4 hF4 n4 s4
  clear Hs1
  have b5 : B ws g4 42 ([.int .i64 0, .string ⟨#[]⟩, .slice none 0 0, .int .i64 0, .int .i64 0, .int .i64 0, .int .i64 0, .int .i64 0, .int .i64 0]) := Hold.blk H3 8 rfl
  refine ef0 (xst (vs := [.int .i64 0, .string noB, .slice none 0 0, .int .i64 0, .int .i64 0, .int .i64 0, .int .i64 0, .int .i64 0, .int .i64 0]) ti42 rfl rfl rfl b5 rfl (Nat.le_of_ble_eq_true rfl) (one_all rfl)) ?_
  rintro w6 ⟨-, b6, c6⟩
  have H4 : Hold w F w6 [rB ge 60 ((eC s b gp gw gd tv qn a' us' op' gl gk)), rPl gp (logs s b + s * b) rd', rR kE 115 tv tab', rMW gw ((wk ++ [k]).map kfP), rMW gd (du.map kfP), rPool 2 ((k.lv, k.ls) :: pl), rB gl 2 ([.int .i64 (-1)]), rB g3 29 ([.int .i64 ck, .string nm, .string dt, .int .i64 cz]), rB g4 42 ([.int .i64 0, .string noB, .slice none 0 0, .int .i64 0, .int .i64 0, .int .i64 0, .int .i64 0, .int .i64 0, .int .i64 0])] := Hold.setB H3 8 rfl b6 c6 rfl
  clear H3
  clear b6 c6
  refine re (rt ?_)
  have b7 : B w6 g4 42 ([.int .i64 0, .string noB, .slice none 0 0, .int .i64 0, .int .i64 0, .int .i64 0, .int .i64 0, .int .i64 0, .int .i64 0]) := Hold.blk H4 8 rfl
  have H5 : Hold w F w6 [rB ge 60 ((eC s b gp gw gd tv qn a' us' op' gl gk)), rPl gp (logs s b + s * b) rd', rR kE 115 tv tab', rMW gw ((wk ++ [k]).map kfP), rMW gd (du.map kfP), rPool 2 ((k.lv, k.ls) :: pl), rB gl 2 ([.int .i64 (-1)])] := (show Hold w F w6 ([rB ge 60 ((eC s b gp gw gd tv qn a' us' op' gl gk)), rPl gp (logs s b + s * b) rd', rR kE 115 tv tab', rMW gw ((wk ++ [k]).map kfP), rMW gd (du.map kfP), rPool 2 ((k.lv, k.ls) :: pl), rB gl 2 ([.int .i64 (-1)])] ++ [rB g3 29 ([.int .i64 ck, .string nm, .string dt, .int .i64 cz]), rB g4 42 ([.int .i64 0, .string noB, .slice none 0 0, .int .i64 0, .int .i64 0, .int .i64 0, .int .i64 0, .int .i64 0, .int .i64 0])]) from Hold.re H4 [0, 1, 2, 3, 4, 5, 6, 7, 8] (by kernel_rfl) (by rfl)).drop
  clear H4
  exact finc  (cs := [.int .i64 0, .string noB, .slice none 0 0, .int .i64 0, .int .i64 0, .int .i64 0, .int .i64 0, .int .i64 0, .int .i64 0]) Tryz.results53 Tryz.underlying42 rfl ti42 rfl b7 rfl  ⟨_, _, _, _, _, _, rfl, hS, H5⟩
end Go.Proofs.YtanfhikfeabidaaGreatDoor
