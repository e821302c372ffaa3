/-
  CONTRACTS 50: the free lids of a table, yielded. No condition.
-/
import Derived.Test.Ytgpcanjmgdmdhaa21
import Derived.Test.YtgpcanjmgdmdhaaRnd
namespace Go.Proofs.Ytgpcanjmgdmdhaa
open Go
open Go.Eng hiding S L den sq sk bl be ex cd ct cf cp cpn gen rg re lp ag opv ops_ r ef ef0 gy gn spf sp rt fin0 den_exit den_ret
open Go.EngI
set_option maxRecDepth 100000
set_option maxHeartbeats 4000000
set_option linter.unusedVariables false
set_option linter.unusedSimpArgs false
/-- The free lids among the first k. -/
def freeN (t : List (Int × Bool)) : Nat → List Int
  | 0 => []
  | k + 1 => freeN t k ++ (match t[k]? with
    | some x => if x.1 = 0 then [(k : Int) + 1] else []
    | none => [])
theorem freeN_yes {t : List (Int × Bool)} {k : Nat} (h : k < t.length) (h0 : t[k].1 = 0) : freeN t (k + 1) = freeN t k ++ [(k : Int) + 1] := by simp [freeN, List.getElem?_eq_getElem h, h0]
theorem freeN_no {t : List (Int × Bool)} {k : Nat} (h : k < t.length) (h0 : ¬ t[k].1 = 0) : freeN t (k + 1) = freeN t k := by simp [freeN, List.getElem?_eq_getElem h, h0]
theorem freeN_len (t : List (Int × Bool)) (k : Nat) : (freeN t k).length ≤ k := by
  induction k with
  | zero => simp [freeN]
  | succ k ih =>
    simp only [freeN, List.length_append]
    split
    · split <;> simp <;> omega
    · simp; omega
def isPart (t : List (Int × Bool)) (pre : List Int) : Prop := ∃ i, ∃ h : i < t.length, t[i].1 = 0 ∧ pre = freeN t i ++ [(i : Int) + 1]
theorem freeLids_seq {w0 : World} {G : List Nat} {g mm : Nat} {tv : Value} {t : List (Int × Bool)} (hB : B w0 g 57 [tv]) (hR : kE.R w0 G tv t) (lt : t.length ≤ 1000000000) :
    SeqStopsK (Wd none) mm Try.prog 146 #[.pointer (some ⟨g, 0, none⟩)] (fun x : Int => #[.int .i64 x]) (Kept (g :: G)) (fun xs => xs = freeN t t.length) (isPart t) 1000000001 w0 := by
  intro l J Jx W hW hJ hJx hY h0
  have hlt : ∀ k, k ∈ g :: G → k < w0.heap.size := fun k hk => (List.mem_cons.1 hk).elim (fun e => e ▸ hB.lt) (fun h => hR.lt k h)
  have hK0 : Kept (g :: G) w0 W := ⟨hW.size, fun k hk => hW.block k (hlt k hk)⟩
  have hltK : ∀ w1, Kept (g :: G) w0 w1 → ∀ k, k ∈ g :: G → k < w1.heap.size := fun w1 h k hk => Nat.lt_of_lt_of_le (hlt k hk) h.1
  have hBK : ∀ w1, Kept (g :: G) w0 w1 → B w1 g 57 [tv] := fun w1 h => (h.2 g (by simp)).trans hB
  have hRK : ∀ w1, Kept (g :: G) w0 w1 → kE.R w1 G tv t := fun w1 h => hR.mv (fun k hk => h.2 k (by simp [hk])) h.1
  refine enterI Try.func146 rfl Try.ntmps146 (by rfl) (by rfl) ?_
  have H0 : Hold W [] W [] := Hold.start W
  have hB0 := hBK W hK0
  have hR0 := hRK W hK0
  refine sq (rg (r (ldb Try.underlying57 rfl rfl ((Hold.ch H0).b0 hB0) rfl) (r (ln Try.underlying57 rfl ((hR0.t (Hold.ch H0)))) (r (mv rfl) (re (bl ?_))))))
  refine lp (α := Nat) (fun i ρ w' => ρ 0 = .func (.yield l) #[] #[] ∧ ρ 5 = tv ∧ ρ 6 = .int .i64 (t.length : Int) ∧ ρ 7 = .int .i64 (i : Int) ∧ i ≤ t.length ∧ J (freeN t i) w' ∧ Kept (g :: G) W w') (fun i => t.length - i) 0 ?_ ?_
  · exact ⟨rfl, rfl, rfl, rfl, by omega, abides_ch hJ h0 (Hold.ch H0), Kept.ch (Hold.ch H0) (hltK W hK0)⟩
  clear H0
  rintro i ρ w1 ⟨y0, y5, y6, y7, hi, hJ1, hK1⟩
  have hK01 := hK0.trans hK1
  have hR1 := hRK w1 hK01
  have H1 : Hold w1 [] w1 [] := Hold.start w1
  refine sq (rg (r (bi y7 y6 rfl) (re (sq ?_))))
  refine cp rfl (fun h => ?_) (fun h => ?_)
  · have hi' : i < t.length := by omega
    refine sk (sq (bl (sq (rg (r (mv y7) ?_)))))
    obtain ⟨c10_1, ad10_1, k10_1, e10_1, p10_1⟩ := Kd.R.place hR1 i (by omega)
    have q10_1 := en_at p10_1
    refine r (ix (j := i) Try.underlying57 ti70 (y5.trans e10_1) y7 (by omega)) (r (la [.int .i64 ((t[i]).1), .bool ((t[i]).2)] Try.underlying70 rfl ti70 rfl rfl (fun m u h => (Ch.cell (Hold.ch H1) (q10_1 m u h)))) (ef (xal ti70) ?_))
    rintro _ w2 ⟨g4, e2, rfl, -, b2, c2⟩
    have H101 : Hold w1 [] w2 [rB g4 70 ([.int .i64 0, .bool false])] := Hold.newB H1 e2 b2 c2
    clear H1
    clear e2 b2 c2
    have b3 : B w2 g4 70 ([.int .i64 0, .bool false]) := Hold.blk H101 0 rfl
    refine r (sa rfl) (ef0 (xst (vs := [.int .i64 ((t[i]).1), .bool ((t[i]).2)]) ti70 rfl rfl rfl b3 rfl (Nat.le_of_ble_eq_true rfl) (one_all rfl)) ?_)
    rintro w4 ⟨-, b4, c4⟩
    have H102 : Hold w1 [] w4 [rB g4 70 ([.int .i64 ((t[i]).1), .bool ((t[i]).2)])] := Hold.setB H101 0 rfl b4 c4 rfl
    clear H101
    clear b4 c4
    have b5 : B w4 g4 70 ([.int .i64 ((t[i]).1), .bool ((t[i]).2)]) := Hold.blk H102 0 rfl
    refine re (sq (rg (r (fa Try.underlying70 rfl ti2 rfl rfl) (r (ldb Try.underlying2 rfl rfl b5 rfl) (r (bi rfl rfl rfl) (r (mv rfl) ?_))))))
    refine sp 15 rfl (fun h0 => ?_) (fun h0 => ?_)
    · refine gy rfl rfl rfl (r (mv y0) (gy rfl rfl rfl (r (mv rfl) (gy rfl rfl rfl (r (ad (a := (i : Int)) (b := 1) ((i : Int) + 1) rfl rfl (by omega)) (gy rfl rfl rfl (yld rfl (ac rfl an) (hY (freeN t i) ((i : Int) + 1) _ (abides_ch hJ hJ1 (Hold.ch H102)) (by have := freeN_len t i; omega)) ?_)))))))
      rintro e w2 (⟨rfl, hJ3, hK3⟩ | ⟨rfl, hJx3⟩)
      · refine ⟨_, rfl, ?_⟩
        have H9t : Hold w2 [] w2 [] := Hold.start w2
        refine gy rfl rfl rfl (r (nt rfl) (r (pk rfl rfl) (re (cf rfl (sk (be ?_))))))
        refine gen (fun ρ => ρ 0 = .func (.yield l) #[] #[] ∧ ρ 5 = tv ∧ ρ 6 = .int .i64 (t.length : Int) ∧ ρ 7 = .int .i64 (i : Int) ∧ True) ⟨y0, y5, y6, y7, trivial⟩ ?_
        rintro ρ ⟨z0, z5, z6, z7, -⟩
        refine rg (r (ad (a := (i : Int)) (b := 1) ((i : Int) + 1) z7 rfl (by omega)) (r (mv rfl) (re ?_)))
        exact ag (i + 1) ⟨z0, z5, z6, rfl, by omega, (by rw [freeN_yes hi' h0]; exact hJ3), (hK1.trans (Kept.ch (Hold.ch H102) (hltK w1 hK01))).trans hK3⟩ (by omega)
      · refine ⟨_, rfl, ?_⟩
        have H9f : Hold w2 [] w2 [] := Hold.start w2
        refine gy rfl rfl rfl (r (nt rfl) (r (pk rfl rfl) (re (ct rfl (rt ?_)))))
        exact fin0 Try.results146 ⟨⟨_, rfl⟩, .inr ⟨_, ⟨i, hi', h0, rfl⟩, hJx3⟩⟩
    · refine gn rfl rfl rfl (gn rfl rfl rfl (gn rfl rfl rfl (gn rfl rfl rfl (gn rfl rfl rfl (r (pk rfl rfl) (re (cf rfl (sk (be ?_)))))))))
      refine gen (fun ρ => ρ 0 = .func (.yield l) #[] #[] ∧ ρ 5 = tv ∧ ρ 6 = .int .i64 (t.length : Int) ∧ ρ 7 = .int .i64 (i : Int) ∧ True) ⟨y0, y5, y6, y7, trivial⟩ ?_
      rintro ρ ⟨z0, z5, z6, z7, -⟩
      refine rg (r (ad (a := (i : Int)) (b := 1) ((i : Int) + 1) z7 rfl (by omega)) (r (mv rfl) (re ?_)))
      exact ag (i + 1) ⟨z0, z5, z6, rfl, by omega, (by rw [freeN_no hi' h0]; exact abides_ch hJ hJ1 (Hold.ch H102)), hK1.trans (Kept.ch (Hold.ch H102) (hltK w1 hK01))⟩ (by omega)
  · obtain rfl : i = t.length := by omega
    refine ex rfl ?_
    exact fin0 Try.results146 ⟨⟨_, rfl⟩, .inl ⟨_, rfl, abides_ch hJ hJ1 (Hold.ch H1)⟩⟩
end Go.Proofs.Ytgpcanjmgdmdhaa
