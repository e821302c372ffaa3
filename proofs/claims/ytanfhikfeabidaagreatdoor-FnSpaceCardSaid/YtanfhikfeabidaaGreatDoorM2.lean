/-
  SEVERAL TEXTS OF MY OWN IN ONE: 13, More, Hold, RegE, Act, Ex, Def, Oth, Map, 36, 37, 14, 15, 16, 20. No condition.
-/
import Derived.Test.YtanfhikfeabidaaGreatDoorM1
import Derived.ChangeKeysEq
import Derived.Laws.IdiomStrings
import Derived.Laws.Strings
import Derived.Laws.IdiomCopy
import Derived.Recover
import Derived.Laws.StructEq
import Derived.MapKept
namespace Go.Proofs.YtanfhikfeabidaaGreatDoor
open Go Go.Eng
set_option maxRecDepth 100000
set_option maxHeartbeats 4000000
set_option linter.unusedVariables false
/-- A count that is left, or -1. -/
def lft (m : Int) (n : Nat) : Int := if m < n then -1 else m - n
/-- What writes ask for, all told. -/
def askW : List (Int × List Int) → Nat
  | [] => 0
  | x :: xs => x.2.length + askW xs
/-- A disk's blocks; a write that is good; a disk that is good. -/
def blks (xs : List Int) : Int := (xs.length : Int) / 64
abbrev wok (n : Int) (x : Int × List Int) : Prop := 0 ≤ x.1 ∧ x.1 < n ∧ x.2.length = 64
def vdisk (xs : List Int) (ps : List (Int × List Int)) : Bool := decide ((xs.length : Int) % 64 = 0 ∧ 1 ≤ blks xs ∧ blks xs ≤ 1200 ∧ ps.length ≤ 400) && ps.all (fun x => decide (wok (blks xs) x))
theorem vdisk_head {xs : List Int} {ps : List (Int × List Int)} (h : ¬ ((xs.length : Int) % 64 = 0 ∧ 1 ≤ blks xs ∧ blks xs ≤ 1200 ∧ ps.length ≤ 400)) : vdisk xs ps = false := by rw [vdisk, decide_eq_false h]; rfl
theorem vdisk_bad {xs : List Int} {ps : List (Int × List Int)} {k : Nat} (hk : k < ps.length) (h : ¬ wok (blks xs) ps[k]) : vdisk xs ps = false := by
  rw [vdisk]
  have : ps.all (fun x => decide (wok (blks xs) x)) = false := by
    rw [List.all_eq_false]
    exact ⟨_, List.getElem_mem hk, by simpa using h⟩
  rw [this, Bool.and_false]
theorem vdisk_good {xs : List Int} {ps : List (Int × List Int)} (h : (xs.length : Int) % 64 = 0 ∧ 1 ≤ blks xs ∧ blks xs ≤ 1200 ∧ ps.length ≤ 400) (hw : ∀ x, x ∈ ps → wok (blks xs) x) : vdisk xs ps = true := by
  rw [vdisk, decide_eq_true h, Bool.true_and, List.all_eq_true]
  exact fun x hx => decide_eq_true (hw x hx)
theorem wok_take {n : Int} {ps : List (Int × List Int)} {k : Nat} (hk : k < ps.length) (h : ∀ x, x ∈ ps.take k → wok n x) (h' : wok n ps[k]) : ∀ x, x ∈ ps.take (k + 1) → wok n x := by
  rw [List.take_succ_eq_append_getElem hk]
  intro x hx
  rcases List.mem_append.1 hx with hx | hx
  · exact h x hx
  · rw [List.mem_singleton.1 hx]; exact h'
theorem Disk_blocks {w : World} {F : List Nat} {v u : Value} {xs : List Int} (hx : u8.R w F v xs) (lx : xs.length ≤ 1000000000) :
    Ret Tryz.prog 23 #[.agg #[v, u]] w (fun r w' => r = .int .i64 (blks xs) ∧ Ch [] w w') := by
  refine enter Tryz.func23 rfl Tryz.ntmps23 (by rfl) (by rfl) ?_
  refine sq (rg (bx rfl ?_))
  intro g1 wg1 eg1 sg1 bg1 cg1
  have qg1 := le_new (Ch.refl [] w).size eg1
  have hcg1 : Ch [] w wg1 := (Ch.refl [] w).t cg1
  replace bg1 : B wg1 g1 33 ([v, u]) := bg1
  refine r (sa rfl) (re (sq (rg (r (fa Tryz.underlying33 rfl ti22 rfl rfl) (r (ldb Tryz.underlying22 rfl rfl bg1 rfl) (r (ln Tryz.underlying22 rfl ((hx.t hcg1))) (r (dv (blks xs) rfl rfl (by rw [Int.tdiv_eq_ediv_of_nonneg (by omega)]; unfold blks; omega)) (r (sa rfl) (re (rt ?_))))))))))
  exact fin1 (v := .int .i64 (blks xs)) Tryz.results23 rfl ⟨rfl, hcg1⟩
theorem impl_ValidDisk {w : World} {F G : List Nat} {v u : Value} {xs : List Int} {ps : List (Int × List Int)} (hx : u8.R w F v xs) (hp : kW.R w G u ps) (lx : xs.length ≤ 1000000000) (hps : ps.length ≤ 1000000000) (lxx : ∀ x, x ∈ ps → x.2.length ≤ 1000000000) :
    Ret Tryz.prog 22 #[.agg #[v, u]] w (fun r w' => r = .bool (vdisk xs ps) ∧ Ch [] w w') := by
  refine enter Tryz.func22 rfl Tryz.ntmps22 (by rfl) (by rfl) ?_
  refine sq (rg (bx rfl ?_))
  intro g1 wg1 eg1 sg1 bg1 cg1
  have qg1 := le_new (Ch.refl [] w).size eg1
  have hcg1 : Ch [] w wg1 := (Ch.refl [] w).t cg1
  replace bg1 : B wg1 g1 33 ([v, u]) := bg1
  refine r (sa rfl) (re (sq (rg (r (lab [v, u] Tryz.underlying33 rfl ti33 rfl bg1 rfl rfl) (cl go23 (Disk_blocks (hx.t hcg1) lx) (ac rfl an) ?_)))))
  rintro r wa ⟨rfl, ca⟩
  replace bg1 := ca.b0 bg1
  have hca : Ch [] w wa := hcg1.t ca
  refine r (sa rfl) (re (sq (sq (rg (r (fa Tryz.underlying33 rfl ti22 rfl rfl) (r (ldb Tryz.underlying22 rfl rfl bg1 rfl) (r (ln Tryz.underlying22 rfl ((hx.t hca))) ?_)))))))
  refine r (rm ((xs.length : Int) % 64) rfl rfl (by rw [Int.tmod_eq_emod_of_nonneg (by omega)]; omega)) (r (bi rfl rfl rfl) (r (mv rfl) ?_))
  refine spn 13 rfl (fun o0 => ?_) (fun o0 => ?_)
  · refine gn rfl rfl rfl (gn rfl rfl rfl (r (pk rfl rfl) (r (mv rfl) (gn rfl rfl rfl (gn rfl rfl rfl (r (pk rfl rfl) (r (mv rfl) (gn rfl rfl rfl (gn rfl rfl rfl (gn rfl rfl rfl (gn rfl rfl rfl (r (pk rfl rfl) (re (ct rfl (sq ?_)))))))))))))))
    refine gen (fun ρ => ρ 1 = .pointer (some ⟨g1, 0, none⟩) ∧ ρ 2 = .bool false ∧ ρ 3 = .int .i64 (blks xs) ∧ True) ⟨rfl, rfl, rfl, trivial⟩ ?_
    rintro ρ ⟨z1, z2, z3, -⟩
    refine rg (r (sa rfl) (re (rt ?_)))
    exact fin1 (v := .bool false) Tryz.results22 rfl ⟨congrArg Value.bool (vdisk_head (by omega)).symm, hca⟩
  · refine gy rfl rfl rfl (r (mv rfl) (gy rfl rfl rfl (r (bi rfl rfl rfl) (r (pk rfl rfl) (r (mv rfl) ?_)))))
    refine sp 17 rfl (fun o1 => ?_) (fun o1 => ?_)
    · refine gn rfl rfl rfl (gn rfl rfl rfl (r (pk rfl rfl) (r (mv rfl) (gn rfl rfl rfl (gn rfl rfl rfl (gn rfl rfl rfl (gn rfl rfl rfl (r (pk rfl rfl) (re (ct rfl (sq ?_)))))))))))
      refine gen (fun ρ => ρ 1 = .pointer (some ⟨g1, 0, none⟩) ∧ ρ 2 = .bool false ∧ ρ 3 = .int .i64 (blks xs) ∧ True) ⟨rfl, rfl, rfl, trivial⟩ ?_
      rintro ρ ⟨z1, z2, z3, -⟩
      refine rg (r (sa rfl) (re (rt ?_)))
      exact fin1 (v := .bool false) Tryz.results22 rfl ⟨congrArg Value.bool (vdisk_head (by omega)).symm, hca⟩
    · refine gy rfl rfl rfl (r (mv rfl) (gy rfl rfl rfl (r (bi rfl rfl rfl) (r (pk rfl rfl) (r (mv rfl) ?_)))))
      refine sp 21 rfl (fun o2 => ?_) (fun o2 => ?_)
      · refine gn rfl rfl rfl (gn rfl rfl rfl (gn rfl rfl rfl (gn rfl rfl rfl (r (pk rfl rfl) (re (ct rfl (sq ?_)))))))
        refine gen (fun ρ => ρ 1 = .pointer (some ⟨g1, 0, none⟩) ∧ ρ 2 = .bool false ∧ ρ 3 = .int .i64 (blks xs) ∧ True) ⟨rfl, rfl, rfl, trivial⟩ ?_
        rintro ρ ⟨z1, z2, z3, -⟩
        refine rg (r (sa rfl) (re (rt ?_)))
        exact fin1 (v := .bool false) Tryz.results22 rfl ⟨congrArg Value.bool (vdisk_head (by omega)).symm, hca⟩
      · refine gy rfl rfl rfl (r (fa Tryz.underlying33 rfl ti31 rfl rfl) (gy rfl rfl rfl (r (ldb Tryz.underlying31 rfl rfl bg1 rfl) (gy rfl rfl rfl (r (ln Tryz.underlying31 rfl ((hp.t hca))) (gy rfl rfl rfl (r (bi rfl rfl rfl) (r (pk rfl rfl) (re ?_)))))))))
        refine cp rfl (fun hl => ?_) (fun hl => ?_)
        · refine sq ?_
          refine gen (fun ρ => ρ 1 = .pointer (some ⟨g1, 0, none⟩) ∧ ρ 2 = .bool false ∧ ρ 3 = .int .i64 (blks xs) ∧ True) ⟨rfl, rfl, rfl, trivial⟩ ?_
          rintro ρ ⟨z1, z2, z3, -⟩
          refine rg (r (sa rfl) (re (rt ?_)))
          exact fin1 (v := .bool false) Tryz.results22 rfl ⟨congrArg Value.bool (vdisk_head (by omega)).symm, hca⟩
        · refine sk (sq (sq ?_))
          refine gen (fun ρ => ρ 1 = .pointer (some ⟨g1, 0, none⟩) ∧ ρ 2 = .bool false ∧ ρ 3 = .int .i64 (blks xs) ∧ True) ⟨rfl, rfl, rfl, trivial⟩ ?_
          rintro ρ ⟨z1, z2, z3, -⟩
          refine rg (r (fa Tryz.underlying33 rfl ti31 rfl z1) (r (ldb Tryz.underlying31 rfl rfl bg1 rfl) (r (ln Tryz.underlying31 rfl ((hp.t hca))) (r (mv rfl) (re (bl ?_))))))
          refine lp (α := Nat) (fun k ρ w' => ρ 3 = .int .i64 (blks xs) ∧ ρ 28 = u ∧ ρ 29 = .int .i64 (ps.length : Int) ∧ ρ 30 = .int .i64 (k : Int) ∧ Ch [] w w' ∧ k ≤ ps.length ∧ ∀ x, x ∈ ps.take k → wok (blks xs) x) (fun k => ps.length - k) 0 ?_ ?_
          · exact ⟨z3, rfl, rfl, rfl, hca, ⟨by omega, by simp⟩⟩
          rintro k ρ w' ⟨y3, y28, y29, y30, hc, ⟨hk, hok⟩⟩
          refine sq (rg (r (bi y30 y29 rfl) (re (sq ?_))))
          refine cp rfl (fun hlt => ?_) (fun hlt => ?_)
          · have hk' : k < ps.length := by omega
            have lk := lxx _ (List.getElem_mem hk')
            refine sk (sq (bl (sq (rg ?_))))
            obtain ⟨c32, ad32, k32, e32, p32⟩ := (hp).place k (by omega)
            obtain ⟨vd32, Fd32, Rd32, sd32, q32⟩ := wr_at p32
            refine r (ix Tryz.underlying31 ti100 (y28.trans e32) y30 (by omega)) (r (la [.int .i64 ((ps[k]).1), vd32] Tryz.underlying100 rfl ti100 rfl rfl (fun m u h => Ch.cell hc (q32 m u h))) (al ti100 ?_))
            intro g5 wg5 eg5 sg5 bg5 cg5
            have qg5 := le_new hc.size eg5
            have hcg5 : Ch [] w wg5 := hc.t cg5
            replace bg5 : B wg5 g5 100 ([.int .i64 0, .slice none 0 0]) := bg5
            refine st ti100 rfl rfl bg5 rfl (Nat.le_of_ble_eq_true rfl) (oc rfl (oc ((Rd32.t hcg5)).oneCell on)) ?_
            intro wS3g5 sS3g5 bg5 cS3g5
            have hcS3g5 : Ch [] w wS3g5 := hcg5.own cS3g5 qg5
            replace bg5 : B wS3g5 g5 100 ([.int .i64 ((ps[k]).1), vd32]) := bg5
            refine re (sq (rg (r (fa Tryz.underlying100 rfl ti2 rfl rfl) (r (ldb Tryz.underlying2 rfl rfl bg5 rfl) (r (bi rfl rfl rfl) (r (mv rfl) ?_))))))
            refine sp 37 rfl (fun b0 => ?_) (fun b0 => ?_)
            · refine gn rfl rfl rfl (gn rfl rfl rfl (gn rfl rfl rfl (gn rfl rfl rfl (r (pk rfl rfl) (r (mv rfl) (gn rfl rfl rfl (gn rfl rfl rfl (gn rfl rfl rfl (gn rfl rfl rfl (r (pk rfl rfl) (re (ct rfl (sq ?_)))))))))))))
              refine gen (fun ρ => ρ 3 = .int .i64 (blks xs) ∧ ρ 28 = u ∧ ρ 29 = .int .i64 (ps.length : Int) ∧ ρ 30 = .int .i64 (k : Int) ∧ True) ⟨y3, y28, y29, y30, trivial⟩ ?_
              rintro ρ ⟨z3, z28, z29, z30, -⟩
              refine rg (r (sa rfl) (re (rt ?_)))
              exact fin1 (v := .bool false) Tryz.results22 rfl ⟨congrArg Value.bool (vdisk_bad hk' (fun e => by omega)).symm, hcS3g5⟩
            · refine gy rfl rfl rfl (r (fa Tryz.underlying100 rfl ti2 rfl rfl) (gy rfl rfl rfl (r (ldb Tryz.underlying2 rfl rfl bg5 rfl) (gy rfl rfl rfl (r (mv y3) (gy rfl rfl rfl (r (bi rfl rfl rfl) (r (pk rfl rfl) (r (mv rfl) ?_)))))))))
              refine sp 43 rfl (fun b1 => ?_) (fun b1 => ?_)
              · refine gn rfl rfl rfl (gn rfl rfl rfl (gn rfl rfl rfl (gn rfl rfl rfl (r (pk rfl rfl) (re (ct rfl (sq ?_)))))))
                refine gen (fun ρ => ρ 3 = .int .i64 (blks xs) ∧ ρ 28 = u ∧ ρ 29 = .int .i64 (ps.length : Int) ∧ ρ 30 = .int .i64 (k : Int) ∧ True) ⟨y3, y28, y29, y30, trivial⟩ ?_
                rintro ρ ⟨z3, z28, z29, z30, -⟩
                refine rg (r (sa rfl) (re (rt ?_)))
                exact fin1 (v := .bool false) Tryz.results22 rfl ⟨congrArg Value.bool (vdisk_bad hk' (fun e => by omega)).symm, hcS3g5⟩
              · refine gy rfl rfl rfl (r (fa Tryz.underlying100 rfl ti22 rfl rfl) (gy rfl rfl rfl (r (ldb Tryz.underlying22 rfl rfl bg5 rfl) (gy rfl rfl rfl (r (ln Tryz.underlying22 rfl ((Rd32.t hcS3g5))) (gy rfl rfl rfl (r (bi rfl rfl rfl) (r (pk rfl rfl) (re ?_)))))))))
                refine cpn rfl (fun hb => ?_) (fun hb => ?_)
                · refine sq ?_
                  refine gen (fun ρ => ρ 3 = .int .i64 (blks xs) ∧ ρ 28 = u ∧ ρ 29 = .int .i64 (ps.length : Int) ∧ ρ 30 = .int .i64 (k : Int) ∧ True) ⟨y3, y28, y29, y30, trivial⟩ ?_
                  rintro ρ ⟨z3, z28, z29, z30, -⟩
                  refine rg (r (sa rfl) (re (rt ?_)))
                  exact fin1 (v := .bool false) Tryz.results22 rfl ⟨congrArg Value.bool (vdisk_bad hk' (fun e => by omega)).symm, hcS3g5⟩
                · have hok' := wok_take hk' hok ⟨by omega, by omega, by omega⟩
                  refine sk (be ?_)
                  refine gen (fun ρ => ρ 3 = .int .i64 (blks xs) ∧ ρ 28 = u ∧ ρ 29 = .int .i64 (ps.length : Int) ∧ ρ 30 = .int .i64 (k : Int) ∧ True) ⟨y3, y28, y29, y30, trivial⟩ ?_
                  rintro ρ ⟨z3, z28, z29, z30, -⟩
                  refine rg (r (ad ((k : Int) + 1) z30 rfl (by omega)) (r (mv rfl) (re ?_)))
                  exact ag (k + 1) ⟨z3, z28, z29, rfl, hcS3g5, ⟨by omega, hok'⟩⟩ (by first | omega | (dsimp only; omega))
          · obtain rfl : k = ps.length := by omega
            rw [List.take_length] at hok
            refine ex rfl (sq (rg (r (sa rfl) (re (rt ?_)))))
            exact fin1 (v := .bool true) Tryz.results22 rfl ⟨congrArg Value.bool (vdisk_good ⟨by omega, by omega, by omega, by omega⟩ hok).symm, hc⟩
end Go.Proofs.YtanfhikfeabidaaGreatDoor

namespace Go.Eng
set_option linter.unusedVariables false
set_option linter.unusedSimpArgs false
section
variable {P : Program} {n : Nat} {k : List It} {Qf : Exit → Act → World → Prop} {ρ : Fr} {ds : List Deferred} {w : World}
variable {ops : Array Oper} {rest : List Oper} {d : Option Nat} {ty : TypeId} {pos : String} {af : Array Edge}
end
end Go.Eng

namespace Go.Eng
set_option linter.unusedVariables false
set_option linter.unusedSimpArgs false

structure Rs where
  P : World → List Nat → Prop
  mv : ∀ {w w' : World} {F : List Nat}, (∀ k, k ∈ F → w'.heap[k]? = w.heap[k]?) → P w F → P w' F
  lt : ∀ {w : World} {F : List Nat}, P w F → ∀ k, k ∈ F → k < w.heap.size
def rB (g : Nat) (T : TypeId) (cs : List Value) : Rs where
  P w F := F = [g] ∧ B w g T cs
  mv := fun hm h => ⟨h.1, (hm g (by rw [h.1]; simp)).trans h.2⟩
  lt := fun h k hk => by rw [h.1] at hk; rw [List.mem_singleton.1 hk]; exact h.2.lt
def rO (g : Nat) (o : Obj) : Rs where
  P w F := F = [g] ∧ w.heap[g]? = some o
  mv := fun hm h => ⟨h.1, (hm g (by rw [h.1]; simp)).trans h.2⟩
  lt := fun h k hk => by rw [h.1] at hk; rw [List.mem_singleton.1 hk]; exact (Array.getElem?_eq_some_iff.1 h.2).1
def rR {α : Type} (dk : Kd α) (e : TypeId) (v : Value) (xs : List α) : Rs where
  P w F := dk.W e w F v xs
  mv := fun hm h => h.mv hm
  lt := fun h => h.lt
/-- Some resource or other out of a family. -/
def exR {β : Type} (r : β → Rs) : Rs where
  P w F := ∃ b, (r b).P w F
  mv := fun hm ⟨b, h⟩ => ⟨b, (r b).mv hm h⟩
  lt := fun ⟨b, h⟩ => (r b).lt h

def Hs (w : World) : List Rs → List Nat → Prop
  | [], F => F = []
  | r :: Γ, F => ∃ F1 F2, F = F1 ++ F2 ∧ r.P w F1 ∧ Hs w Γ F2
theorem Hs.mv {w w' : World} {Γ : List Rs} : ∀ {F : List Nat}, (∀ k, k ∈ F → w'.heap[k]? = w.heap[k]?) → Hs w Γ F → Hs w' Γ F := by
  induction Γ with
  | nil => exact fun _ h => h
  | cons r Γ ih =>
    rintro F hm ⟨F1, F2, rfl, h1, h2⟩
    exact ⟨F1, F2, rfl, r.mv (fun k hk => hm k (List.mem_append_left _ hk)) h1, ih (fun k hk => hm k (List.mem_append_right _ hk)) h2⟩
theorem Hs.lt {w : World} {Γ : List Rs} : ∀ {F : List Nat}, Hs w Γ F → ∀ k, k ∈ F → k < w.heap.size := by
  induction Γ with
  | nil => rintro F rfl k hk; cases hk
  | cons r Γ ih =>
    rintro F ⟨F1, F2, rfl, h1, h2⟩ k hk
    rcases List.mem_append.1 hk with hk | hk
    · exact r.lt h1 k hk
    · exact ih h2 k hk
theorem Hs.app {w : World} {Γ Δ : List Rs} : ∀ {F G : List Nat}, Hs w Γ F → Hs w Δ G → Hs w (Γ ++ Δ) (F ++ G) := by
  induction Γ with
  | nil => rintro F G rfl h; exact h
  | cons r Γ ih =>
    rintro F G ⟨F1, F2, rfl, h1, h2⟩ h
    exact ⟨F1, F2 ++ G, by simp, h1, ih h2 h⟩
theorem Hs.split {w : World} {Γ Δ : List Rs} : ∀ {F : List Nat}, Hs w (Γ ++ Δ) F → ∃ F1 F2, F = F1 ++ F2 ∧ Hs w Γ F1 ∧ Hs w Δ F2 := by
  induction Γ with
  | nil => exact fun h => ⟨[], _, rfl, rfl, h⟩
  | cons r Γ ih =>
    rintro F ⟨F1, F2, rfl, h1, h2⟩
    obtain ⟨G1, G2, rfl, g1, g2⟩ := ih h2
    exact ⟨F1 ++ G1, G2, by simp, ⟨F1, G1, rfl, h1, g1⟩, g2⟩
theorem Hs.one {w : World} {r : Rs} {F : List Nat} (h : r.P w F) : Hs w [r] F := ⟨F, [], by simp, h, rfl⟩
theorem Hs.one' {w : World} {r : Rs} {F : List Nat} (h : Hs w [r] F) : r.P w F := by
  obtain ⟨F1, F2, rfl, h1, rfl⟩ := h
  simpa using h1
theorem Hs.perm {w : World} {Γ Δ : List Rs} (hp : Γ.Perm Δ) : ∀ {F : List Nat}, Hs w Γ F → ∃ G, F.Perm G ∧ Hs w Δ G := by
  induction hp with
  | nil => exact fun h => ⟨_, .refl _, h⟩
  | cons r _ ih =>
    rintro F ⟨F1, F2, rfl, h1, h2⟩
    obtain ⟨G, hG, h⟩ := ih h2
    exact ⟨F1 ++ G, hG.append_left _, F1, G, rfl, h1, h⟩
  | swap a b l =>
    rintro F ⟨F1, F2, rfl, h1, F3, F4, rfl, h2, h3⟩
    refine ⟨F3 ++ (F1 ++ F4), ?_, F3, F1 ++ F4, rfl, h2, F1, F4, rfl, h1, h3⟩
    rw [← List.append_assoc, ← List.append_assoc]
    exact List.perm_append_comm.append_right _
  | trans _ _ ih1 ih2 =>
    intro F h
    obtain ⟨G, hG, h⟩ := ih1 h
    obtain ⟨G', hG', h⟩ := ih2 h
    exact ⟨G', hG.trans hG', h⟩
theorem perm_idx {α : Type} (is : List Nat) (l : List α) (h : is.Perm (List.range l.length)) : (is.filterMap (fun i => l[i]?)).Perm l := by
  have h1 := h.filterMap (fun i => l[i]?)
  have h2 : (List.range l.length).filterMap (fun i => l[i]?) = l := by
    clear h h1 is
    induction l with
    | nil => rfl
    | cons a l ih =>
      rw [List.length_cons, List.range_succ_eq_map, List.filterMap_cons, List.filterMap_map]
      simp only [List.getElem?_cons_zero]
      congr 1
  rwa [h2] at h1

/-- Of the blocks F of w (and of new ones) F' has come; no others of w have changed. -/
structure Turn (w w' : World) (F F' : List Nat) : Prop where
  nd : F'.Nodup
  sub : ∀ k, k ∈ F' → k ∈ F ∨ w.heap.size ≤ k
  ch : Ch F w w'
theorem Turn.new {w w' : World} {F : List Nat} (n : F.Nodup) (f : ∀ k, k ∈ F → w.heap.size ≤ k) (c : Ch [] w w') : Turn w w' [] F := ⟨n, fun k hk => .inr (f k hk), c⟩
theorem Turn.own {w w' : World} {F F' : List Nat} (n : F'.Nodup) (f : ∀ k, k ∈ F' → k ∈ F) (c : Ch F w w') : Turn w w' F F' := ⟨n, fun k hk => .inl (f k hk), c⟩
def Hold (w0 : World) (F0 : List Nat) (w : World) (Γ : List Rs) : Prop := ∃ F, Hs w Γ F ∧ Turn w0 w F0 F
section
variable {w0 w w' : World} {F0 : List Nat} {Γ Δ : List Rs} {i : Nat}
theorem Hold.start (w : World) : Hold w [] w [] := ⟨[], rfl, by simp, (fun k hk => by cases hk), Ch.refl _ _⟩
theorem Hold.begin {F : List Nat} (h : Hs w Γ F) (n : F.Nodup) : Hold w F w Γ := ⟨F, h, n, fun k hk => .inl hk, Ch.refl _ _⟩
theorem Hold.ch (H : Hold w0 F0 w Γ) : Ch F0 w0 w := let ⟨_, _, T⟩ := H; T.ch
theorem Hold.size (H : Hold w0 F0 w Γ) : w0.heap.size ≤ w.heap.size := H.ch.size
/-- Whatever else has come of nothing. -/
theorem Hold.t (H : Hold w0 F0 w Γ) (c : Ch [] w w') : Hold w0 F0 w' Γ := by
  obtain ⟨F, h, n, s, c0⟩ := H
  exact ⟨F, h.mv (fun k hk => c.blk k (h.lt k hk) (by simp)), n, s, c0.t c⟩
theorem Hold.re (H : Hold w0 F0 w Γ) (is : List Nat) (hp : is.isPerm (List.range Γ.length) = true) (e : is.filterMap (fun i => Γ[i]?) = Δ) : Hold w0 F0 w Δ := by
  obtain ⟨F, h, n, s, c⟩ := H
  have hp' := perm_idx is Γ (List.isPerm_iff.1 hp)
  rw [e] at hp'
  obtain ⟨G, hG, h'⟩ := h.perm hp'.symm
  exact ⟨G, h', hG.nodup_iff.1 n, fun k hk => s k (hG.mem_iff.2 hk), c⟩
/-- The first of them: whatever they are turned to. -/
theorem Hold.front (H : Hold w0 F0 w (Γ ++ Δ)) : ∃ F, Hs w Γ F ∧ F.Nodup ∧ (∀ k, k ∈ F → k ∈ F0 ∨ w0.heap.size ≤ k) ∧ ∀ w' Γ' F', Hs w' Γ' F' → Turn w w' F F' → Hold w0 F0 w' (Γ' ++ Δ) := by
  obtain ⟨F, h, n, s, c⟩ := H
  obtain ⟨F1, F2, rfl, h1, h2⟩ := h.split
  obtain ⟨n1, n2, n3⟩ := nodup_app.1 n
  refine ⟨F1, h1, n1, fun k hk => s k (List.mem_append_left _ hk), fun w' Γ' F' h' T => ⟨F' ++ F2, h'.app (h2.mv fun k hk => T.ch.blk k (h2.lt k hk) (fun hk' => n3 k hk' hk)), nodup_app.2 ⟨T.nd, n2, fun k hk hk2 => ?_⟩, fun k hk => ?_, ?_⟩⟩
  · rcases T.sub k hk with hk' | hk'
    · exact n3 k hk' hk2
    · have := h2.lt k hk2; omega
  · rcases List.mem_append.1 hk with hk | hk
    · rcases T.sub k hk with hk' | hk'
      · exact s k (List.mem_append_left _ hk')
      · exact .inr (Nat.le_trans c.size hk')
    · exact s k (List.mem_append_right _ hk)
  · exact c.trans T.ch (fun k hk hl => (s k (List.mem_append_left _ hk)).resolve_right (by omega))
/-- Number i. -/
theorem Hs.pick {r : Rs} {i : Nat} {F : List Nat} (h : Hs w Γ F) (hi : Γ[i]? = some r) : ∃ Fa Fi Fb, F = Fa ++ (Fi ++ Fb) ∧ Hs w (Γ.take i) Fa ∧ r.P w Fi ∧ Hs w (Γ.drop (i + 1)) Fb := by
  have hl := (List.getElem?_eq_some_iff.1 hi).1
  have e : Γ = Γ.take i ++ (r :: Γ.drop (i + 1)) := by
    have := List.getElem_of_getElem? hi
    obtain ⟨_, rfl⟩ := this
    rw [← List.drop_eq_getElem_cons hl, List.take_append_drop]
  rw [e] at h
  obtain ⟨F1, F2, rfl, h1, Fi, Fb, rfl, h2, h3⟩ := h.split
  exact ⟨F1, Fi, Fb, rfl, h1, h2, h3⟩
theorem Hold.pick {r : Rs} (H : Hold w0 F0 w Γ) (i : Nat) (hi : Γ[i]? = some r) : ∃ F, r.P w F ∧ F.Nodup ∧ (∀ k, k ∈ F → k ∈ F0 ∨ w0.heap.size ≤ k) ∧ ∀ w' r' F' Γ', r'.P w' F' → Turn w w' F F' → Γ.set i r' = Γ' → Hold w0 F0 w' Γ' := by
  obtain ⟨F, h, n, s, c⟩ := H
  have hl := (List.getElem?_eq_some_iff.1 hi).1
  obtain ⟨Fa, Fi, Fb, rfl, h1, h2, h3⟩ := h.pick hi
  obtain ⟨n1, n2, n3, m1, m2, m3⟩ := nodup_mid.1 n
  have hs : ∀ k, k ∈ Fi → k ∈ F0 ∨ w0.heap.size ≤ k := fun k hk => s k (by simp [hk])
  refine ⟨Fi, h2, n2, hs, fun w' r' F' Γ' h' T e => ⟨Fa ++ (F' ++ Fb), ?_, nodup_mid.2 ⟨n1, T.nd, n3, fun k hk hk2 => ?_, m2, fun k hk hk2 => ?_⟩, fun k hk => ?_, ?_⟩⟩
  · rw [← e, List.set_eq_take_append_cons_drop, if_pos hl]
    exact (h1.mv fun k hk => T.ch.blk k (h1.lt k hk) (m1 k hk)).app ⟨F', Fb, rfl, h', h3.mv fun k hk => T.ch.blk k (h3.lt k hk) (fun hk' => m3 k hk' hk)⟩
  · rcases T.sub k hk2 with hk' | hk'
    · exact m1 k hk hk'
    · have := h1.lt k hk; omega
  · rcases T.sub k hk with hk' | hk'
    · exact m3 k hk' hk2
    · have := h3.lt k hk2; omega
  · simp only [List.mem_append] at hk
    rcases hk with hk | hk | hk
    · exact s k (by simp [hk])
    · rcases T.sub k hk with hk' | hk'
      · exact hs k hk'
      · exact .inr (Nat.le_trans c.size hk')
    · exact s k (by simp [hk])
  · exact c.trans T.ch (fun k hk hl => (hs k hk).resolve_right (by omega))
theorem Hold.res {r : Rs} (H : Hold w0 F0 w Γ) (i : Nat) (hi : Γ[i]? = some r) : ∃ F, r.P w F := let ⟨F, h, _⟩ := H.pick i hi; ⟨F, h⟩
/-- A block; a row, to be read. -/
theorem Hold.blk {g : Nat} {T : TypeId} {cs : List Value} (H : Hold w0 F0 w Γ) (i : Nat) (hi : Γ[i]? = some (rB g T cs)) : B w g T cs := let ⟨_, h⟩ := H.res i hi; h.2
theorem Hold.row {α : Type} {dk : Kd α} {e : TypeId} {v : Value} {xs : List α} (H : Hold w0 F0 w Γ) (i : Nat) (hi : Γ[i]? = some (rR dk e v xs)) : ∃ F, dk.R w F v xs := let ⟨F, h⟩ := H.res i hi; ⟨F, Kd.W.R h⟩
theorem Hold.rowW {α : Type} {dk : Kd α} {e : TypeId} {v : Value} {xs : List α} (H : Hold w0 F0 w Γ) (i : Nat) (hi : Γ[i]? = some (rR dk e v xs)) : ∃ F, dk.W e w F v xs := H.res i hi
/-- What a call, given F, has left of it stands in the place of these. -/
theorem Hold.call {F : List Nat} {Γ' : List Rs} (K : ∀ w' Γ' F', Hs w' Γ' F' → Turn w w' F F' → Hold w0 F0 w' (Γ' ++ Δ)) (H' : Hold w F w' Γ') : Hold w0 F0 w' (Γ' ++ Δ) := let ⟨F', h, T⟩ := H'; K w' Γ' F' h T
/-- What a call has made of nothing is laid beside. -/
theorem Hold.news (H : Hold w0 F0 w Γ) (H' : Hold w [] w' Δ) : Hold w0 F0 w' (Γ ++ Δ) := by
  obtain ⟨F, h, n, s, c⟩ := H
  obtain ⟨F', h', n', s', c'⟩ := H'
  refine ⟨F ++ F', (h.mv fun k hk => c'.blk k (h.lt k hk) (by simp)).app h', nodup_app.2 ⟨n, n', fun k hk hk2 => ?_⟩, fun k hk => ?_, c.t c'⟩
  · have := h.lt k hk
    rcases s' k hk2 with h | h
    · cases h
    · omega
  · rcases List.mem_append.1 hk with hk | hk
    · exact s k hk
    · rcases s' k hk with h | h
      · cases h
      · exact .inr (Nat.le_trans c.size h)
theorem Hold.new {r : Rs} {F : List Nat} (H : Hold w0 F0 w Γ) (h : r.P w' F) (n : F.Nodup) (f : ∀ k, k ∈ F → w.heap.size ≤ k) (c : Ch [] w w') : Hold w0 F0 w' (Γ ++ [r]) := H.news ⟨F, Hs.one h, Turn.new n f c⟩
/-- A block that is new. -/
theorem Hold.newB {g : Nat} {T : TypeId} {cs : List Value} (H : Hold w0 F0 w Γ) (e : g = w.heap.size) (h : B w' g T cs) (c : Ch [] w w') : Hold w0 F0 w' (Γ ++ [rB g T cs]) :=
  H.new (r := rB g T cs) ⟨rfl, h⟩ (by simp) (fun k hk => by rw [List.mem_singleton.1 hk, e]; exact Nat.le_refl _) c
/-- A store into a block. -/
theorem Hold.setB {g : Nat} {T : TypeId} {cs cs' : List Value} (H : Hold w0 F0 w Γ) (i : Nat) (hi : Γ[i]? = some (rB g T cs)) (h : B w' g T cs') (c : Ch [g] w w') (e : Γ.set i (rB g T cs') = Δ) : Hold w0 F0 w' Δ := by
  obtain ⟨F, hp, n, s, K⟩ := H.pick i hi
  obtain ⟨rfl, _⟩ := hp
  exact K w' (rB g T cs') [g] Δ ⟨rfl, h⟩ (Turn.own (by simp) (fun k hk => hk) c) e
/-- Some are let go. -/
theorem Hold.drop (H : Hold w0 F0 w (Γ ++ Δ)) : Hold w0 F0 w Γ := by
  obtain ⟨F, h, n, s, c⟩ := H
  obtain ⟨F1, F2, rfl, h1, h2⟩ := h.split
  exact ⟨F1, h1, (nodup_app.1 n).1, fun k hk => s k (List.mem_append_left _ hk), c⟩
/-- An append onto a row of one's own; a change of it. -/
theorem Hold.apd {α : Type} {dk : Kd α} {e : TypeId} {v v' : Value} {xs ys : List α} {F F' : List Nat} (K : ∀ w' r' F' Γ', r'.P w' F' → Turn w w' F F' → Γ.set i r' = Γ' → Hold w0 F0 w' Γ') (hW : dk.W e w F v ys) (A : Apd dk e w w' F [] F' v v' xs) (he : Γ.set i (rR dk e v' xs) = Δ) : Hold w0 F0 w' Δ :=
  K w' (rR dk e v' xs) F' Δ A.W ⟨A.nd, fun k hk => (A.sub k hk).elim .inl (fun h => h.elim (fun h => by cases h) .inr), A.ch.mono (fun k hk _ => W_own hW k hk)⟩ he
theorem Hold.mut {α : Type} {dk : Kd α} {e : TypeId} {v : Value} {xs ys : List α} {F F' : List Nat} (K : ∀ w' r' F' Γ', r'.P w' F' → Turn w w' F F' → Γ.set i r' = Γ' → Hold w0 F0 w' Γ') (A : Mut dk e w w' F F' v xs) (he : Γ.set i (rR dk e v xs) = Δ) : Hold w0 F0 w' Δ :=
  K w' (rR dk e v xs) F' Δ A.W ⟨A.nd, A.sub, A.ch⟩ he
/-- The end: all that is left. -/
theorem Hold.last {r : Rs} (H : Hold w0 [] w Γ) (i : Nat) (hi : Γ[i]? = some r) : Hold w0 [] w [r] := by
  obtain ⟨F, h, n, s, c⟩ := H
  obtain ⟨Fa, Fi, Fb, rfl, h1, h2, h3⟩ := h.pick hi
  obtain ⟨n1, n2, n3, m1, m2, m3⟩ := nodup_mid.1 n
  exact ⟨Fi, Hs.one h2, n2, fun k hk => s k (by simp [hk]), c⟩
theorem Hold.nil (H : Hold w0 F0 w Γ) : Hold w0 F0 w [] := by
  obtain ⟨F, h, n, s, c⟩ := H
  exact ⟨[], rfl, by simp, (fun k hk => by cases hk), c.mono (fun k hk _ => hk)⟩
end
end Go.Eng

namespace Go.Eng
set_option linter.unusedVariables false
set_option linter.unusedSimpArgs false

section
variable {P : Program} {ops : Array Oper} {Q : Exit → Act → World → Prop} {S' : World → Prop}
/-- Whatever order is picked from here on; S' holds behind every operation but the last. -/
def wpAnyE (P : Program) (ops : Array Oper) (Q : Exit → Act → World → Prop) (S' : World → Prop) : Nat → Array Bool → Act → World → Prop
  | 0, listed, a, w => Region.ready .any ops listed = [] ∧ Q .normal a w
  | fuel + 1, listed, a, w =>
    (Region.ready .any ops listed = [] → Q .normal a w) ∧
    ∀ i ∈ Region.ready .any ops listed, wpOp P ops Q i (fun a' w' => ((listed.setIfInBounds i true).all id = true ∨ S' w') ∧ wpAnyE P ops Q S' fuel (listed.setIfInBounds i true) a' w') a w
theorem wpAny_of_E : ∀ (fuel : Nat) (listed : Array Bool) (a : Act) (w : World), wpAnyE P ops Q S' fuel listed a w → wpAny P .any ops Q fuel listed a w
  | 0, _, _, _, h => h
  | fuel + 1, _, _, _, h => ⟨h.1, fun i hi => wpOp_mono (fun a' w' h' => wpAny_of_E fuel _ a' w' h'.2) (h.2 i hi)⟩
/-- What has come up has all that it waits for come up ahead of it. -/
def closed (ops : Array Oper) (listed : Array Bool) : Prop := listed.size = ops.size ∧ ∀ k ok, ops[k]? = some ok → listed.getD k false = true → ∀ e ∈ ok.after, Region.binds .any e = true → listed.getD e.on false = true
theorem closed_none : closed ops (Array.replicate ops.size false) := by
  refine ⟨by simp, fun k ok hk h => ?_⟩
  exfalso
  simp [Array.getD_eq_getD_getElem?, Array.getElem?_replicate] at h
  split at h <;> simp at h
theorem closed_set {listed : Array Bool} {i : Nat} (h : closed ops listed) (hi : i ∈ Region.ready .any ops listed) : closed ops (listed.setIfInBounds i true) := by
  refine ⟨by simp [h.1], fun k ok hk hl e he hb => ?_⟩
  obtain ⟨h0, o, ho, hall⟩ := mem_ready.1 hi
  by_cases e' : i = k
  · subst e'
    rw [ho] at hk
    injection hk with hk
    subst hk
    exact getD_set_true (hall e he hb)
  · rw [getD_set_ne false e'] at hl
    exact getD_set_true (h.2 k ok hk hl e he hb)
theorem all_get {listed : Array Bool} (h : listed.all id = true) {k : Nat} (hk : k < listed.size) : listed.getD k false = true := by
  rw [Array.all_eq_true] at h
  simpa [Array.getD_eq_getD_getElem?, Array.getElem?_eq_getElem hk] using h k hk
theorem wpAnyE_first {i : Nat} {oi : Oper} {v : Value} (hi : ops[i]? = some oi) (hsel : ∀ (j : Nat) (o : Oper) cs b, ops[j]? = some o → o.op ≠ .select cs b)
    (hQ : ∀ c a w, Q (.panic c) (a.put oi.dst v) w → Q (.panic c) a w) (hs : ∃ (k : Nat) (ok : Oper), ops[k]? = some ok ∧ ∃ e ∈ ok.after, Region.binds .any e = true ∧ e.on = i) :
    ∀ (fuel : Nat) (listed : Array Bool) (a : Act) (w : World), closed ops listed →
      (∀ j oj, ops[j]? = some oj → j ≠ i → listed.getD j true = false → (∀ e ∈ oj.after, Region.binds .any e = true → e.on ≠ i) → oi.apart ops oj = true) →
      i ∈ Region.ready .any ops listed → YieldsIf P ops S' oi v a → S' w →
      wpAnyE P ops Q S' fuel (listed.setIfInBounds i true) (a.put oi.dst v) w → wpAnyE P ops Q S' (fuel + 1) listed a w := by
  intro fuel
  induction fuel with
  | zero =>
    intro listed a w _ _ hr hy hS H
    refine ⟨fun h => (by rw [h] at hr; cases hr), fun j hj => ?_⟩
    by_cases hji : j = i
    · subst hji; exact hy.wpOp hi hS ⟨.inr hS, H⟩
    · have := ready_mono hj hji
      rw [H.1] at this
      cases this
  | succ fuel ih =>
    intro listed a w hcl hfree hr hy hS H
    refine ⟨fun h => (by rw [h] at hr; cases hr), fun j hj => ?_⟩
    by_cases hji : j = i
    · subst hji; exact hy.wpOp hi hS ⟨.inr hS, H⟩
    · have h1 := H.2 j (ready_mono hj hji)
      obtain ⟨hjun, oj, hoj, hall⟩ := mem_ready.1 hj
      obtain ⟨h0, oi', hoi', halli⟩ := mem_ready.1 hr
      have hilt : i < listed.size := by
        rcases Nat.lt_or_ge i listed.size with h' | h'
        · exact h'
        · simp [Array.getElem?_eq_none h'] at h0
      have hiun : listed.getD i false = true → False := fun h1 => by
        simp [hilt] at h0 h1; rw [h0] at h1; cases h1
      have hnot : ∀ e ∈ oj.after, Region.binds .any e = true → e.on ≠ i := fun e he hb heq => by
        have h1 := hall e he hb
        rw [heq] at h1
        exact hiun h1
      have h2 := wpOp_putIf hoj (hfree j oj hoj hji hjun hnot) (fun cs b => hsel i oi cs b hi) (fun cs b => hsel j oj cs b hoj) hQ hy h1
      have hfree' : ∀ k ok, ops[k]? = some ok → k ≠ i → (listed.setIfInBounds j true).getD k true = false →
          (∀ e ∈ ok.after, Region.binds .any e = true → e.on ≠ i) → oi.apart ops ok = true := fun k ok hk hki hun hno => by
        refine hfree k ok hk hki ?_ hno
        by_cases hjk : j = k
        · subst hjk; exact hjun
        · rw [getD_set_ne true hjk] at hun; exact hun
      refine wpOp_mono (fun a' w' h3 => ?_) h2
      have hS' : S' w' := by
        rcases h3.2.1 with hd | hd
        · exfalso
          obtain ⟨k, ok, hk, e, he, hb, heq⟩ := hs
          have hklt : k < listed.size := by rw [hcl.1]; exact (Array.getElem?_eq_some_iff.1 hk).1
          by_cases hki : k = i
          · subst hki
            rw [hoi'] at hk
            injection hk with hk
            subst hk
            exact hiun (heq ▸ halli e he hb)
          · by_cases hkj : k = j
            · subst hkj
              rw [hoj] at hk
              injection hk with hk
              subst hk
              exact hnot e he hb heq
            · have := all_get hd (k := k) (by simpa using hklt)
              rw [getD_set_ne false (Ne.symm hkj), getD_set_ne false (Ne.symm hki)] at this
              exact hiun (heq ▸ hcl.2 k ok hk this e he hb)
        · exact hd
      refine ⟨.inr hS', ih (listed.setIfInBounds j true) a' w' (closed_set hcl hj) hfree' (ready_mono hr (Ne.symm hji)) h3.1 hS' ?_⟩
      rw [Array.setIfInBounds_comm _ _ hji]
      exact h3.2.2
/-- The operation's value is waited for. -/
def hasSucc (ops : Array Oper) (i : Nat) : Bool := ops.any fun o => o.after.any fun e => Region.binds .any e && Nat.beq e.on i
theorem hasSucc_spec {i : Nat} (h : hasSucc ops i = true) : ∃ (k : Nat) (ok : Oper), ops[k]? = some ok ∧ ∃ e ∈ ok.after, Region.binds .any e = true ∧ e.on = i := by
  unfold hasSucc at h
  rw [Array.any_eq_true] at h
  obtain ⟨k, hk, h⟩ := h
  rw [Array.any_eq_true] at h
  obtain ⟨m, hm, h⟩ := h
  simp only [Bool.and_eq_true, Nat.beq_eq] at h
  exact ⟨k, ops[k], Array.getElem?_eq_getElem hk, _, Array.getElem_mem hm, h.1, h.2⟩
end

section
variable {P : Program} {n : Nat} {k : List It} {Qf : Exit → Act → World → Prop} {ρ : Fr} {ds : List Deferred} {w : World} {ops : Array Oper} {K : Fr → World → Prop} {Kp : List PanicEntry → World → Prop} {S' : World → Prop} {fuel : Nat} {listed : Array Bool}

def Dqe (n : Nat) (ds : List Deferred) (K : Fr → World → Prop) (Kp : List PanicEntry → World → Prop) : Exit → Act → World → Prop
  | .normal, a, w => ∃ ρ, Sim n ρ ds a ∧ K ρ w
  | .panic c, a, w => (∃ ρ, Sim n ρ ds a) ∧ Kp c w
  | _, _, _ => False
theorem Dqe.back {d : Option Nat} {v : Value} (c : List PanicEntry) (a : Act) (w : World) (h : Dqe n ds K Kp (.panic c) (a.put d v) w) : Dqe n ds K Kp (.panic c) a w := by
  obtain ⟨⟨ρ, hs⟩, hK⟩ := h
  refine ⟨⟨fun t => a.tmps.getD t undef, ?_, ?_, fun t => rfl⟩, hK⟩
  · have := hs.size
    cases d <;> simpa [Act.put] using this
  · have := hs.defers
    cases d <;> simpa [Act.put] using this
def De (P : Program) (n : Nat) (ops : Array Oper) (K : Fr → World → Prop) (Kp : List PanicEntry → World → Prop) (S' : World → Prop) (fuel : Nat) (listed : Array Bool) (ρ : Fr) (ds : List Deferred) (w : World) : Prop :=
  okl n ops.toList = true → closed ops listed → (listed.all id = true ∨ S' w) → ∀ a, Sim n ρ ds a → wpAnyE P ops (Dqe n ds K Kp) S' fuel listed a w
/-- The region's beginning; what reads may lean on S' (chosen here). -/
theorem rde {id : Nat} {l : List Oper} (hm : P.follows .mixedOrders = true)
    (h : ∀ w1, Ch [] w w1 → ∃ S' : World → Prop, S' w1 ∧ De P n l.toArray (fun ρ' w' => S P n k Qf ρ' ds w') (fun c w' => ∀ a, (∃ ρ, Sim n ρ ds a) → den P Qf k (.panic c) a w') S' l.length (Array.replicate l.length false) ρ ds w1) : S P n (.c (.region id l.toArray true) :: k) Qf ρ ds w := by
  intro hk a ha
  simp only [okk, okc, Bool.and_eq_true] at hk
  obtain ⟨S', hS, hh⟩ := h { w with drawn := w.drawn + 1 } (ch_drew w (w.drawn + 1))
  have hh := hh hk.1 (by simpa using closed_none (ops := l.toArray)) (.inr hS) a ha
  refine wp_mono (Q := Dqe n ds (fun ρ' w' => S P n k Qf ρ' ds w') (fun c w' => ∀ a, (∃ ρ, Sim n ρ ds a) → den P Qf k (.panic c) a w')) ?_ ?_
  · exact wp_region_any hm (by simpa using wpAny_of_E _ _ _ _ hh)
  · intro e a' w' h
    cases e with
    | normal => obtain ⟨ρ', hs, hK⟩ := h; exact hK hk.2 a' hs
    | panic c => exact h.2 a' h.1
    | exit id => exact h.elim
    | goto l => exact h.elim
    | ret => exact h.elim
    | outgrown => exact h.elim
/-- The same, with a word for what holds behind the region. -/
theorem rde_cut {id : Nat} {l : List Oper} (I : Fr → World → Prop) (hm : P.follows .mixedOrders = true)
    (h : ∀ w1, Ch [] w w1 → ∃ S' : World → Prop, S' w1 ∧ De P n l.toArray I (fun c w' => ∀ a, (∃ ρ, Sim n ρ ds a) → den P Qf k (.panic c) a w') S' l.length (Array.replicate l.length false) ρ ds w1) (hI : ∀ ρ' w', I ρ' w' → S P n k Qf ρ' ds w') : S P n (.c (.region id l.toArray true) :: k) Qf ρ ds w := by
  intro hk a ha
  simp only [okk, okc, Bool.and_eq_true] at hk
  obtain ⟨S', hS, hh⟩ := h { w with drawn := w.drawn + 1 } (ch_drew w (w.drawn + 1))
  have hh := hh hk.1 (by simpa using closed_none (ops := l.toArray)) (.inr hS) a ha
  refine wp_mono (Q := Dqe n ds I (fun c w' => ∀ a, (∃ ρ, Sim n ρ ds a) → den P Qf k (.panic c) a w')) ?_ ?_
  · exact wp_region_any hm (by simpa using wpAny_of_E _ _ _ _ hh)
  · intro e a' w' h
    cases e with
    | normal => obtain ⟨ρ', hs, hK⟩ := h; exact hI ρ' w' hK hk.2 a' hs
    | panic c => exact h.2 a' h.1
    | exit id => exact h.elim
    | goto l => exact h.elim
    | ret => exact h.elim
    | outgrown => exact h.elim
theorem not_all {listed : Array Bool} {i : Nat} (h : i ∈ Region.ready .any ops listed) : ¬ listed.all id = true := by
  intro hd
  obtain ⟨h0, _⟩ := mem_ready.1 h
  rcases Nat.lt_or_ge i listed.size with h' | h'
  · have := all_get hd h'
    simp [h'] at h0 this; rw [h0] at this; cases this
  · simp [Array.getElem?_eq_none h'] at h0
theorem edtv (i : Nat) {oi : Oper} {v : Value} (hi : ops[i]? = some oi) (hc : (Region.noSelect ops && Region.free .any ops listed i && (Region.ready .any ops listed).contains i && hasSucc ops i) = true)
    (hy : ∀ a, Sim n ρ ds a → YieldsIf P ops S' oi v a) (h : De P n ops K Kp S' fuel (listed.setIfInBounds i true) (updo ρ oi.dst v) ds w) : De P n ops K Kp S' (fuel + 1) listed ρ ds w := by
  intro hl hcl hS a ha
  simp only [Bool.and_eq_true] at hc
  have hr : i ∈ Region.ready .any ops listed := by simpa using hc.1.2
  have hS' : S' w := hS.resolve_left (not_all hr)
  refine wpAnyE_first hi (Region.noSelect_spec hc.1.1.1) (fun c a w => Dqe.back c a w) (hasSucc_spec hc.2) fuel listed a w hcl (Region.free_spec hi hc.1.1.2) hr (hy a ha) hS' ?_
  exact h hl (closed_set hcl hr) (.inr hS') _ (ha.put oi.dst (okl_at hl (by simpa using hi)) v)
/-- What only reads is taken first. -/
theorem edt (i : Nat) {oi : Oper} {v : Value} (hi : ops[i]? = some oi) (hc : (Region.noSelect ops && Region.free .any ops listed i && (Region.ready .any ops listed).contains i && hasSucc ops i) = true)
    (hr : ∀ w', S' w' → Rn P ρ oi w' v) (h : De P n ops K Kp S' fuel (listed.setIfInBounds i true) (updo ρ oi.dst v) ds w) : De P n ops K Kp S' (fuel + 1) listed ρ ds w := by
  intro hl hcl hS a ha
  have hc' := hc
  simp only [Bool.and_eq_true] at hc'
  have hS' : S' w := hS.resolve_left (not_all (by simpa using hc'.1.2))
  exact edtv i hi hc (fun a ha => .inl ⟨by simp [Region.wanted, (hr w hS').1], fun w' hw => by rw [ha.eval]; exact (hr w' hw).2 w' (Ch.refl _ _)⟩) h hl hcl hS a ha
theorem edty (i : Nat) {d : Option Nat} {op : Op} {ty : TypeId} {pos : String} {af : Array Edge} {j t : Nat} {b : Bool} {v : Value} (hi : ops[i]? = some ⟨d, op, ty, pos, af, some (j, b)⟩) (hc : (Region.noSelect ops && Region.free .any ops listed i && (Region.ready .any ops listed).contains i && hasSucc ops i) = true)
    (hj : (ops[j]?).bind (·.dst) = some t) (ht : ρ t = .bool b) (hn : Nat.blt t n = true) (hr : ∀ w', S' w' → Rn P ρ ⟨d, op, ty, pos, af, none⟩ w' v)
    (h : De P n ops K Kp S' fuel (listed.setIfInBounds i true) (updo ρ d v) ds w) : De P n ops K Kp S' (fuel + 1) listed ρ ds w := by
  refine edtv i hi hc (fun a ha => .inl ⟨?_, fun w' hw => ?_⟩) h
  · simp [Region.wanted, yld (ops := ops) ha hj ht hn, vb]
  · rw [ha.eval]; exact (hr w' hw).2 w' (Ch.refl _ _)
theorem edtn (i : Nat) {d : Option Nat} {op : Op} {ty : TypeId} {pos : String} {af : Array Edge} {j t : Nat} {b : Bool} (hi : ops[i]? = some ⟨d, op, ty, pos, af, some (j, b)⟩) (hc : (Region.noSelect ops && Region.free .any ops listed i && (Region.ready .any ops listed).contains i && hasSucc ops i) = true)
    (hj : (ops[j]?).bind (·.dst) = some t) (ht : ρ t = .bool (!b)) (hn : Nat.blt t n = true)
    (h : De P n ops K Kp S' fuel (listed.setIfInBounds i true) (updo ρ d undef) ds w) : De P n ops K Kp S' (fuel + 1) listed ρ ds w := by
  refine edtv i hi hc (fun a ha => .inr ⟨?_, rfl⟩) h
  have hy := yld (ops := ops) ha hj ht hn
  cases b <;> simp [Region.wanted, hy, vb]
theorem spne (t : Nat) {p : Prop} [Decidable p] (ht : ρ t = .bool (!decide p)) (hT : ¬ p → De P n ops K Kp S' fuel listed (upd ρ t (.bool true)) ds w) (hF : p → De P n ops K Kp S' fuel listed (upd ρ t (.bool false)) ds w) : De P n ops K Kp S' fuel listed ρ ds w := by
  by_cases h : p
  · have := hF h; rwa [upd_self ρ t _ (by rw [ht, decide_eq_true h]; rfl)] at this
  · have := hT h; rwa [upd_self ρ t _ (by rw [ht, decide_eq_false h]; rfl)] at this
/-- Number i comes up, and it alone: what it asks. -/
def Ue (P : Program) (n : Nat) (ops : Array Oper) (K : Fr → World → Prop) (Kp : List PanicEntry → World → Prop) (S' : World → Prop) (fuel : Nat) (listed : Array Bool) (i : Nat) (ρ : Fr) (ds : List Deferred) (w : World) : Prop :=
  okl n ops.toList = true → ∀ a, Sim n ρ ds a → wpOp P ops (Dqe n ds K Kp) i (fun a' w' => ((listed.setIfInBounds i true).all id = true ∨ S' w') ∧ (closed ops (listed.setIfInBounds i true) → wpAnyE P ops (Dqe n ds K Kp) S' fuel (listed.setIfInBounds i true) a' w')) a w
theorem ed1 (i : Nat) (hc : (Region.ready .any ops listed == [i]) = true) (h : Ue P n ops K Kp S' fuel listed i ρ ds w) : De P n ops K Kp S' (fuel + 1) listed ρ ds w := by
  intro hl hcl hS a ha
  simp only [beq_iff_eq] at hc
  refine ⟨fun h0 => (by rw [hc] at h0; cases h0), fun j hj => ?_⟩
  have hj' := hj
  rw [hc] at hj'
  obtain rfl := List.mem_singleton.1 hj'
  exact wpOp_mono (fun a' w' h' => ⟨h'.1, h'.2 (closed_set hcl hj)⟩) (h hl a ha)
/-- One of two comes up. -/
theorem ed2 (i j : Nat) (hc : (Region.ready .any ops listed == [i, j]) = true) (h1 : Ue P n ops K Kp S' fuel listed i ρ ds w) (h2 : Ue P n ops K Kp S' fuel listed j ρ ds w) : De P n ops K Kp S' (fuel + 1) listed ρ ds w := by
  intro hl hcl hS a ha
  simp only [beq_iff_eq] at hc
  refine ⟨fun h0 => (by rw [hc] at h0; cases h0), fun m hm => ?_⟩
  have hm' := hm
  rw [hc] at hm'
  simp only [List.mem_cons, List.not_mem_nil, or_false] at hm'
  rcases hm' with rfl | rfl
  · exact wpOp_mono (fun a' w' h' => ⟨h'.1, h'.2 (closed_set hcl hm)⟩) (h1 hl a ha)
  · exact wpOp_mono (fun a' w' h' => ⟨h'.1, h'.2 (closed_set hcl hm)⟩) (h2 hl a ha)
/-- All have come up. -/
theorem edd (hc : (Region.ready .any ops listed).isEmpty = true) (h : K ρ w) : De P n ops K Kp S' fuel listed ρ ds w := by
  intro hl hcl hS a ha
  have hc' : Region.ready .any ops listed = [] := by simpa using hc
  cases fuel with
  | zero => exact ⟨hc', ρ, ha, h⟩
  | succ m => exact ⟨fun _ => ⟨ρ, ha, h⟩, by rw [hc']; simp⟩
theorem euv {i : Nat} {oi : Oper} {v : Value} {w' : World} (hi : ops[i]? = some oi) (hg : oi.guard = none) (hr : (execOp (ev ρ) oi).run P w = .ok (.value v) w') (hS : (listed.setIfInBounds i true).all id = true ∨ S' w') (h : De P n ops K Kp S' fuel (listed.setIfInBounds i true) (updo ρ oi.dst v) ds w') : Ue P n ops K Kp S' fuel listed i ρ ds w := by
  intro hl a ha
  unfold wpOp
  simp only [hi, Region.wanted, hg, if_true]
  refine .inl ?_
  unfold Oper.wp
  rw [ha.eval, hr]
  exact ⟨hS, fun hcl => h hl hcl hS _ (ha.put oi.dst (okl_at hl (by simpa using hi)) v)⟩
theorem eus {i : Nat} {oi : Oper} {w' : World} (hi : ops[i]? = some oi) (hg : oi.guard = none) (hr : (execOp (ev ρ) oi).run P w = .ok .skip w') (hS : (listed.setIfInBounds i true).all id = true ∨ S' w') (h : De P n ops K Kp S' fuel (listed.setIfInBounds i true) (updo ρ oi.dst undef) ds w') : Ue P n ops K Kp S' fuel listed i ρ ds w := by
  intro hl a ha
  unfold wpOp
  simp only [hi, Region.wanted, hg, if_true]
  refine .inl ?_
  unfold Oper.wp
  rw [ha.eval, hr]
  exact ⟨hS, fun hcl => h hl hcl hS _ (ha.put oi.dst (okl_at hl (by simpa using hi)) undef)⟩
/-- An operation that reads, at its time. -/
theorem eur {i : Nat} {oi : Oper} {v : Value} (hi : ops[i]? = some oi) (hr : Rn P ρ oi w v) (hS : (listed.setIfInBounds i true).all id = true ∨ S' w) (h : De P n ops K Kp S' fuel (listed.setIfInBounds i true) (updo ρ oi.dst v) ds w) : Ue P n ops K Kp S' fuel listed i ρ ds w := euv hi hr.1 (hr.2 w (Ch.refl _ _)) hS h
/-- An operation that acts and yields a value. -/
theorem euf {i : Nat} {oi : Oper} {Φ : Value → World → Prop} (hi : ops[i]? = some oi) (h : Ex P ρ oi w Φ) (hk : ∀ v w', Φ v w' → ((listed.setIfInBounds i true).all id = true ∨ S' w') ∧ De P n ops K Kp S' fuel (listed.setIfInBounds i true) (updo ρ oi.dst v) ds w') : Ue P n ops K Kp S' fuel listed i ρ ds w := by
  obtain ⟨hg, v, w', hr, hΦ⟩ := h
  obtain ⟨h1, h2⟩ := hk v w' hΦ
  exact euv hi hg hr h1 h2
/-- An operation that acts and yields nothing. -/
def Ex0 (P : Program) (ρ : Fr) (o : Oper) (w : World) (Φ : World → Prop) : Prop := o.guard = none ∧ ∃ w', (execOp (ev ρ) o).run P w = .ok .skip w' ∧ Φ w'
theorem euf0 {i : Nat} {oi : Oper} {Φ : World → Prop} (hi : ops[i]? = some oi) (h : Ex0 P ρ oi w Φ) (hk : ∀ w', Φ w' → ((listed.setIfInBounds i true).all id = true ∨ S' w') ∧ De P n ops K Kp S' fuel (listed.setIfInBounds i true) (updo ρ oi.dst undef) ds w') : Ue P n ops K Kp S' fuel listed i ρ ds w := by
  obtain ⟨hg, w', hr, hΦ⟩ := h
  obtain ⟨h1, h2⟩ := hk w' hΦ
  exact eus hi hg hr h1 h2
theorem ef0 {rest : List Oper} {o : Oper} {Φ : World → Prop} (h : Ex0 P ρ o w Φ) (hk : ∀ w', Φ w' → L P n ops rest k Qf (updo ρ o.dst undef) ds w') : L P n ops (o :: rest) k Qf ρ ds w := by
  obtain ⟨hg, w', hr, hΦ⟩ := h
  exact ops_ hg hr (hk w' hΦ)

/-! ### Calls that may panic -/
/-- The call returns, and this is so; or it panics, and that is so. -/
def RetP (P : Program) (f : FuncId) (args : Array Value) (w : World) (Φ : Value → World → Prop) (Ψ : List PanicEntry → World → Prop) : Prop :=
  Calls P f args w fun e w' => (∃ v, e = .returned v ∧ Φ v w') ∨ (∃ c, e = .panicked c ∧ Ψ c w')
theorem RetP.ret {f : FuncId} {args : Array Value} {Φ : Value → World → Prop} {Ψ : List PanicEntry → World → Prop} (h : RetP P f args w Φ Ψ) (hn : ∀ c w', ¬ Ψ c w') : Ret P f args w Φ :=
  Calls.mono h fun _ _ h => h.elim id (fun ⟨c, _, h⟩ => (hn _ _ h).elim)
theorem opcp {rest : List Oper} {o : Oper} {f : FuncId} {args : Array Value} {w' : World} {Φ : Value → World → Prop} {Ψ : List PanicEntry → World → Prop} (hg : o.guard = none) (hrun : (execOp (ev ρ) o).run P w = .ok (.enter f args) w') (hc : RetP P f args w' Φ Ψ)
    (h : ∀ v w2, Φ v w2 → L P n ops rest k Qf (updo ρ o.dst v) ds w2) (hp : ∀ c w2 a, Ψ c w2 → Sim n ρ ds a → Qf (.panic c) a w2) : L P n ops (o :: rest) k Qf ρ ds w := by
  intro hl hk a ha
  simp only [okl, Bool.and_eq_true] at hl
  refine wpList_plain hg fun K hK => ?_
  unfold Oper.wp
  rw [ha.eval, hrun, Oper.upon_enter]
  refine Calls.mono hc fun e w2 h2 => ?_
  rcases h2 with ⟨v, he, hv⟩ | ⟨c, he, hv⟩
  · subst he
    exact hK _ _ (h v w2 hv hl.2 hk _ (ha.put o.dst hl.1 v))
  · subst he
    exact den_panic k c a w2 (hp c w2 a hv ha)
theorem clp {rest : List Oper} {d : Option Nat} {ty : TypeId} {pos : String} {af : Array Edge} {f : FuncId} {xs : Array Operand} {vs : List Value} {ts : Array TypeId} {Φ : Value → World → Prop} {Ψ : List PanicEntry → World → Prop} (hg : Goes P f) (hc : RetP P f vs.toArray w Φ Ψ) (hx : xs.toList.map (ev ρ) = vs) (hp : ∀ c w2 a, Ψ c w2 → Sim n ρ ds a → Qf (.panic c) a w2) (h : ∀ v w', Φ v w' → L P n ops rest k Qf (updo ρ d v) ds w') :
    L P n ops (⟨d, .call ⟨.value (.func f), xs, ts⟩, ty, pos, af, none⟩ :: rest) k Qf ρ ds w := by
  refine opcp (w' := w) (f := f) (args := vs.toArray) rfl ?_ hc h hp
  rw [← arr hx]
  simp [execOp, resolve, Deferred.ofValue, invoke, ev, hg _ w]
theorem clvp {rest : List Oper} {d : Option Nat} {ty : TypeId} {pos : String} {af : Array Edge} {x : Operand} {f : FuncId} {cap : List Value} {xs : Array Operand} {vs : List Value} {ts : Array TypeId} {Φ : Value → World → Prop} {Ψ : List PanicEntry → World → Prop} (hx : ev ρ x = .func (.func f) #[] cap.toArray) (hg : Goes P f) (hxs : xs.toList.map (ev ρ) = vs) (hc : RetP P f (vs ++ cap).toArray w Φ Ψ)
    (hp : ∀ c w2 a, Ψ c w2 → Sim n ρ ds a → Qf (.panic c) a w2) (h : ∀ v w', Φ v w' → L P n ops rest k Qf (updo ρ d v) ds w') :
    L P n ops (⟨d, .call ⟨.value x, xs, ts⟩, ty, pos, af, none⟩ :: rest) k Qf ρ ds w := by
  refine opcp (w' := w) (f := f) (args := (vs ++ cap).toArray) rfl ?_ hc h hp
  have := arr hxs
  simp [execOp, resolve, Deferred.ofValue, invoke, hx, hg _ w, this]
/-- 'panic(x)' of an interface value that is not nil. -/
theorem pnc {rest : List Oper} {d : Option Nat} {ty : TypeId} {pos : String} {af : Array Edge} {x : Operand} {t : TypeId} {v : Value} (hx : ev ρ x = .iface t v) (hp : ∀ a, Sim n ρ ds a → Qf (.panic [{ v := .iface t v, recovered := false }]) a w) : L P n ops (⟨d, .panic x, ty, pos, af, none⟩ :: rest) k Qf ρ ds w := by
  intro hl hk a ha
  refine wpList_plain rfl fun K hK => ?_
  unfold Oper.wp
  have hrun : (execOp (ev ρ) ⟨d, .panic x, ty, pos, af, none⟩).run P w = .halt (.panic (.iface t v)) w := by simp [execOp, hx, Instr.panic, goPanic]
  rw [ha.eval, hrun]
  exact den_panic k _ a w (hp a ha)
/-- What is asked at the end of a function that may panic. -/
def FinP (P : Program) (fn : Func) (Φ : Value → World → Prop) (Ψ : List PanicEntry → World → Prop) : Exit → Act → World → Prop := bodyPost P fn fun e w' => (∃ v, e = .returned v ∧ Φ v w') ∨ (∃ c, e = .panicked c ∧ Ψ c w')
theorem enterP {f : FuncId} {fn : Func} {c : Code} {args : Array Value} {Φ : Value → World → Prop} {Ψ : List PanicEntry → World → Prop} (hf : P.funcs[f]? = some fn) (hb : fn.body = some c) (hn : fn.ntmps = n)
    (hok : okc n c = true) (hs : Nat.ble args.size n = true) (h : S P n [.c c] (FinP P fn Φ Ψ) (ini args) [] w) : RetP P f args w Φ Ψ := by
  refine calls_of_wp hf hb ?_
  have hs' : args.size ≤ n := Nat.le_of_ble_eq_true hs
  refine h (by simp [okk, hok]) _ ⟨by simp [hn]; omega, rfl, fun t => ?_⟩
  simp only [ini, Array.getD_eq_getD_getElem?, Array.getElem?_append]
  split
  · rfl
  · rename_i hlt
    rw [Array.getElem?_eq_none (Nat.le_of_not_lt hlt)]
    simp only [Array.getElem?_replicate]
    split <;> rfl
theorem FinP.panic {fn : Func} {Φ : Value → World → Prop} {Ψ : List PanicEntry → World → Prop} {c : List PanicEntry} {a : Act} (h : Ψ c w) (ha : Sim n ρ [] a) : FinP P fn Φ Ψ (.panic c) a w := ⟨ha.defers, .inr ⟨c, rfl, h⟩⟩
theorem rtp {fn : Func} {Φ : Value → World → Prop} {Ψ : List PanicEntry → World → Prop} (h : S P n [] (FinP P fn Φ Ψ) ρ ds w) : S P n (.c .ret :: k) (FinP P fn Φ Ψ) ρ ds w :=
  fun hk a ha => wp_ret (den_ret k a w (h rfl a ha))
/-- The ends of a function that does not panic serve for one that may. -/
theorem finp {fn : Func} {Φ : Value → World → Prop} {Ψ : List PanicEntry → World → Prop} (h : S P n [] (Fin P fn Φ) ρ [] w) : S P n [] (FinP P fn Φ Ψ) ρ [] w := by
  intro hk a ha
  obtain ⟨h1, v, h2, h3⟩ := h hk a ha
  exact ⟨h1, v, h2, .inl h3⟩
end
end Go.Eng

namespace Go.Eng
set_option linter.unusedVariables false
set_option linter.unusedSimpArgs false

/-! ### Slicing -/
/-- The value v, sliced from l to h; sz: an element's cells. -/
def slv (v : Value) (l h sz : Nat) : Value := match v with
  | .slice a _ cap => .slice (if cap = l then a else a.map (·.add (l * sz))) (h - l) (cap - l)
  | v => v
theorem Els.cut {α : Type} {R : List Nat → α → List Value → Prop} {sz : Nat} (hl : ∀ F x c, R F x c → c.length = sz) {xs : List α} : ∀ {F : List Nat} {cs : List Value} (i : Nat), i ≤ xs.length → Els R F xs cs →
    ∃ Fa Fb, F = Fa ++ Fb ∧ Els R Fa (xs.take i) (cs.take (i * sz)) ∧ Els R Fb (xs.drop i) (cs.drop (i * sz)) := by
  induction xs with
  | nil =>
    rintro F cs i hi ⟨rfl, rfl⟩
    exact ⟨[], [], rfl, by simpa using ⟨rfl, rfl⟩, by simpa using ⟨rfl, rfl⟩⟩
  | cons x xs ih =>
    rintro F cs i hi ⟨F1, F2, c1, c2, rfl, rfl, h1, h2⟩
    cases i with
    | zero => exact ⟨[], F1 ++ F2, rfl, by simpa using ⟨rfl, rfl⟩, by simpa using ⟨F1, F2, c1, c2, rfl, rfl, h1, h2⟩⟩
    | succ i =>
      obtain ⟨Fa, Fb, rfl, ha, hb⟩ := ih i (by simpa using hi) h2
      have e : (i + 1) * sz = c1.length + i * sz := by rw [hl _ _ _ h1, Nat.add_mul, Nat.one_mul, Nat.add_comm]
      refine ⟨F1 ++ Fa, Fb, by simp, ?_, ?_⟩
      · rw [e, List.take_length_add_append]
        exact ⟨F1, Fa, c1, _, rfl, rfl, h1, ha⟩
      · rw [e, List.drop_length_add_append]
        exact hb
theorem Kd.R.sl {α : Type} {dk : Kd α} {w : World} {F : List Nat} {v : Value} {xs : List α} (h : dk.R w F v xs) (l u : Nat) (hl : l ≤ u) (hu : u ≤ xs.length) : ∃ F', (∀ k, k ∈ F' → k ∈ F) ∧ dk.R w F' (slv v l u dk.sz) ((xs.take u).drop l) := by
  obtain ⟨A, c, G, Fs, cs, rfl, hc, rfl, hG, he, hr⟩ := h
  obtain ⟨Fa, Fb, rfl, ha, _⟩ := he.cut (fun _ _ _ h => dk.len h) u hu
  obtain ⟨Fc, Fd, rfl, _, hd⟩ := ha.cut (fun _ _ _ h => dk.len h) l (by simp; omega)
  refine ⟨G ++ Fd, fun k hk => ?_, ?_⟩
  · simp only [List.mem_append] at hk ⊢
    rcases hk with hk | hk
    · exact .inl hk
    · exact .inr (.inl (.inr hk))
  refine ⟨_, c - l, G, Fd, _, by rw [show ((xs.take u).drop l).length = u - l by simp; omega]; rfl, by simp; omega, rfl, hG, hd, fun j x hx => ?_⟩
  rw [List.getElem?_drop, List.getElem?_take] at hx
  split at hx
  · rename_i hlt
    obtain ⟨ad, rfl, e2, e3⟩ := hr _ x hx
    have hcl : ¬ c = l := by
      intro e
      have : u * dk.sz = l * dk.sz := by rw [show u = l by omega]
      omega
    refine ⟨ad.add (l * dk.sz), by rw [if_neg hcl]; rfl, by rw [add_block]; exact e2, by rw [add_add]; exact e3⟩
  · cases hx

section
variable {P : Program} {n : Nat} {k : List It} {Qf : Exit → Act → World → Prop} {ρ : Fr} {ds : List Deferred} {w : World}
variable {ops : Array Oper} {rest : List Oper} {d : Option Nat} {ty : TypeId} {pos : String} {af : Array Edge}
theorem Kd.R.cap {α : Type} {dk : Kd α} {F : List Nat} {v : Value} {xs : List α} (h : dk.R w F v xs) : ∃ A c, v = .slice A xs.length c ∧ xs.length ≤ c := h.shape
theorem slr {α : Type} {dk : Kd α} {F : List Nat} {v : Value} {xs : List α} {t e : TypeId} {z : Value} {by_ : Nat} {x y1 y2 : Operand} {k1 k2 : IntKind} (l u : Nat) (ht : P.underlying t = some (.slice e)) (hi : TI P e z dk.sz by_) (hR : dk.R w F v xs) (hx : ev ρ x = v) (h1 : ev ρ y1 = .int k1 (l : Int)) (h2 : ev ρ y2 = .int k2 (u : Int)) (hb : l ≤ u ∧ u ≤ xs.length) :
    Rn P ρ ⟨d, .slice t x (some y1) (some y2) none, ty, pos, af, none⟩ w (slv v l u dk.sz) := by
  obtain ⟨A, c, rfl, hc⟩ := hR.shape
  obtain ⟨i0, hi0, _, hsz, _⟩ := hi.size
  refine ⟨rfl, fun w' _ => ?_⟩
  simp [execOp, hx, h1, h2, Instr.sliceAt, run_underlying ht, Instr.slice, Instr.sliceBounds, run_sliceBound, sizeOf, typeInfo, hi0, run_program, hsz, slv, hb.1, show u ≤ c by omega]
theorem slrh {α : Type} {dk : Kd α} {F : List Nat} {v : Value} {xs : List α} {t e : TypeId} {z : Value} {by_ : Nat} {x y2 : Operand} {k2 : IntKind} (u : Nat) (ht : P.underlying t = some (.slice e)) (hi : TI P e z dk.sz by_) (hR : dk.R w F v xs) (hx : ev ρ x = v) (h2 : ev ρ y2 = .int k2 (u : Int)) (hb : u ≤ xs.length) :
    Rn P ρ ⟨d, .slice t x none (some y2) none, ty, pos, af, none⟩ w (slv v 0 u dk.sz) := by
  obtain ⟨A, c, rfl, hc⟩ := hR.shape
  obtain ⟨i0, hi0, _, hsz, _⟩ := hi.size
  refine ⟨rfl, fun w' _ => ?_⟩
  simp [execOp, hx, h2, Instr.sliceAt, run_underlying ht, Instr.slice, Instr.sliceBounds, run_sliceBound, sizeOf, typeInfo, hi0, run_program, hsz, slv, show u ≤ c by omega]
theorem slrl {α : Type} {dk : Kd α} {F : List Nat} {v : Value} {xs : List α} {t e : TypeId} {z : Value} {by_ : Nat} {x y1 : Operand} {k1 : IntKind} (l : Nat) (ht : P.underlying t = some (.slice e)) (hi : TI P e z dk.sz by_) (hR : dk.R w F v xs) (hx : ev ρ x = v) (h1 : ev ρ y1 = .int k1 (l : Int)) (hb : l ≤ xs.length) :
    Rn P ρ ⟨d, .slice t x (some y1) none none, ty, pos, af, none⟩ w (slv v l xs.length dk.sz) := by
  obtain ⟨A, c, rfl, hc⟩ := hR.shape
  obtain ⟨i0, hi0, _, hsz, _⟩ := hi.size
  refine ⟨rfl, fun w' _ => ?_⟩
  simp [execOp, hx, h1, Instr.sliceAt, run_underlying ht, Instr.slice, Instr.sliceBounds, run_sliceBound, sizeOf, typeInfo, hi0, run_program, hsz, slv, hb]
/-- 'b[:]', 'b[l:]' of an array. -/
theorem slal {arr e : TypeId} {m l : Nat} {x y : Operand} {p : Addr} {z : Value} {sz by_ : Nat} {kd : IntKind} (hu : P.underlying arr = some (.array m e)) (hi : TI P e z sz by_) (hx : ev ρ x = .pointer (some p)) (hy : ev ρ y = .int kd (l : Int)) (hl : l ≤ m) : Rn P ρ ⟨d, .slice arr x (some y) none none, ty, pos, af, none⟩ w (slv (.slice (some p) m m) l m sz) := by
  obtain ⟨i0, hi0, hz, hsz, _⟩ := info_parts hi
  refine ⟨rfl, fun w' _ => ?_⟩
  by_cases e : m = l
  · simp [execOp, hx, hy, Instr.sliceAt, run_underlying hu, Instr.sureAddr, Instr.sliceBounds, run_sliceBound, sizeOf, typeInfo, hi0, Addr.add, slv, hl, hsz, e, run_program]
  · simp [execOp, hx, hy, Instr.sliceAt, run_underlying hu, Instr.sureAddr, Instr.sliceBounds, run_sliceBound, sizeOf, typeInfo, hi0, slv, hl, hsz, e, run_program]
theorem nck {x : Operand} {p : Addr} (hx : ev ρ x = .pointer (some p)) : Rn P ρ ⟨d, .nilCheck x, ty, pos, af, none⟩ w (.pointer (some p)) :=
  ⟨rfl, fun w' _ => by simp [execOp, hx]⟩

/-! ### Texts -/
def mkS (xs : List Int) : ByteArray := xs.foldl (fun r n => r.push (UInt8.ofNat n.toNat)) ByteArray.empty
theorem mkS_data (xs : List Int) : (mkS xs).data.toList = xs.map (fun n => UInt8.ofNat n.toNat) := by
  have : ∀ (xs : List Int) (r : ByteArray), (xs.foldl (fun r n => r.push (UInt8.ofNat n.toNat)) r).data.toList = r.data.toList ++ xs.map (fun n => UInt8.ofNat n.toNat) := by
    intro xs
    induction xs with
    | nil => simp
    | cons x xs ih =>
      intro r
      rw [List.foldl_cons, ih]
      simp [ByteArray.push]
  simpa [mkS] using this xs ByteArray.empty
theorem mkS_size (xs : List Int) : (mkS xs).size = xs.length := by
  have := congrArg List.length (mkS_data xs)
  rw [List.length_map, Array.length_toList] at this
  exact this
theorem ba_ext {s t : ByteArray} (h : s.data.toList = t.data.toList) : s = t := by
  cases s; cases t
  simp only at h
  congr 1
  exact Array.toList_inj.1 h
def ok8 (xs : List Int) : Prop := ∀ x, x ∈ xs → 0 ≤ x ∧ x ≤ 255
theorem mkS_inj {xs ys : List Int} (hx : ok8 xs) (hy : ok8 ys) (h : mkS xs = mkS ys) : xs = ys := by
  replace h := congrArg (fun s => s.data.toList) h
  simp only [mkS_data] at h
  induction xs generalizing ys with
  | nil => cases ys with
    | nil => rfl
    | cons y ys => simp at h
  | cons x xs ih =>
    cases ys with
    | nil => simp at h
    | cons y ys =>
      simp only [List.map_cons, List.cons.injEq] at h
      have h1 := hx x (by simp)
      have h2 := hy y (by simp)
      have e : x = y := by
        have := congrArg UInt8.toNat h.1
        simp only [UInt8.toNat_ofNat'] at this
        omega
      rw [e, ih (fun z hz => hx z (by simp [hz])) (fun z hz => hy z (by simp [hz])) h.2]
/-- The bytes of a text, as numbers. -/
def nums8 (s : ByteArray) : List Int := s.data.toList.map (fun b => (b.toNat : Int))
theorem nums8_ok (s : ByteArray) : ok8 (nums8 s) := fun x hx => by
  obtain ⟨b, _, rfl⟩ := List.mem_map.1 hx
  have := b.toNat_lt
  omega
theorem nums8_len (s : ByteArray) : (nums8 s).length = s.size := by
  rw [nums8, List.length_map, Array.length_toList]
  rfl
theorem mkS_nums8 (s : ByteArray) : mkS (nums8 s) = s := by
  apply ba_ext
  rw [mkS_data, nums8, List.map_map]
  conv => rhs; rw [← List.map_id s.data.toList]
  apply List.map_congr_left
  intro b _
  simp
theorem nums8_mkS {xs : List Int} (h : ok8 xs) : nums8 (mkS xs) = xs := mkS_inj (nums8_ok _) h (mkS_nums8 _)
theorem cvbs {F : List Nat} {v : Value} {xs : List Int} {s t e : TypeId} {x : Operand} (hs : P.underlying s = some (.slice e)) (he : P.underlying e = some (.int .u8)) (ht : P.underlying t = some .string) (hR : (Kd.int .u8).R w F v xs) (hx : ev ρ x = v) : Rn P ρ ⟨d, .convert s t x, ty, pos, af, none⟩ w (.string (mkS xs)) := by
  refine ⟨rfl, fun w' hw => ?_⟩
  have hR' := hR.t hw
  obtain ⟨A, c, G, Fs, cs, rfl, hc, rfl, hG, hel, hr⟩ := hR'
  obtain rfl := els_int_inv hel
  have hcv : ∀ r, (Conv.bytesToString (.slice A xs.length c)).run P w' = r → (execOp (ev ρ) ⟨d, .convert s t x, ty, pos, af, none⟩).run P w' = r.andThen (fun v w' => .ok (.value v) w') := by
    intro r hr'
    simp only [execOp, hx, Sem.run_bind, run_convert_bytes_string w' s t e A xs.length c hs he ht, hr', Sem.run_pure]
  cases A with
  | none =>
    have hy : xs = [] := by
      cases xs with
      | nil => rfl
      | cons y ys =>
        obtain ⟨ad, e1, _⟩ := hr 0 (.int .u8 y) (by simp)
        cases e1
    subst hy
    rw [hcv (.ok (.string .empty) w') (by simp [Conv.bytesToString])]
    rfl
  | some a =>
    have hl := run_loadCells_list (P := P) w' a (xs.map (Value.int .u8)) (fun j u hu => by
      obtain ⟨ad, e1, _, e3⟩ := hr j u hu
      injection e1 with e1
      subst e1; exact e3)
    simp only [List.length_map] at hl
    rw [hcv _ (run_bytesToString w' a xs.length c xs hl)]
    rfl
theorem ba_beq (a b : ByteArray) : (a.toList == b.toList) = decide (a = b) := by
  by_cases e : a = b
  · subst e; simp
  · have : a.toList ≠ b.toList := fun h => e (by
      apply ba_ext
      rw [← ByteArray.toList_eq a, ← ByteArray.toList_eq b, h])
    rw [decide_eq_false e]
    simpa using this
theorem seq {t u : TypeId} {x y : Operand} {a b : ByteArray} (hx : ev ρ x = .string a) (hy : ev ρ y = .string b) : Rn P ρ ⟨d, .binOp .eql t x y u, ty, pos, af, none⟩ w (.bool (decide (a = b))) := by
  refine ⟨rfl, fun w' _ => ?_⟩
  simp [execOp, hx, hy, eqGuard, binOp, Op.stringOp, ba_beq]
theorem sne {t u : TypeId} {x y : Operand} {a b : ByteArray} (hx : ev ρ x = .string a) (hy : ev ρ y = .string b) : Rn P ρ ⟨d, .binOp .neq t x y u, ty, pos, af, none⟩ w (.bool (!decide (a = b))) := by
  refine ⟨rfl, fun w' _ => ?_⟩
  simp [execOp, hx, hy, eqGuard, binOp, Op.stringOp, ba_beq]
theorem sct {t u : TypeId} {x y : Operand} {a b : ByteArray} (hx : ev ρ x = .string a) (hy : ev ρ y = .string b) (hs : a.size + b.size ≤ 9223372036854775807) : Rn P ρ ⟨d, .binOp .add t x y u, ty, pos, af, none⟩ w (.string (a ++ b)) :=
  ⟨rfl, fun w' _ => by simp [execOp, hx, hy, eqGuard, binOp, Op.stringOp, show (a.size : Int) + b.size ≤ 9223372036854775807 by omega]⟩
theorem nums8_get {s : ByteArray} {i : Nat} (h : i < s.size) : (nums8 s)[i]'(by rw [nums8_len]; exact h) = (s[i].toNat : Int) := by
  simp [nums8]; rfl
/-- 's[i]'. -/
theorem six {t : TypeId} {x i : Operand} {s : ByteArray} {j : Nat} {kd : IntKind} (ht : P.underlying t = some .string) (hx : ev ρ x = .string s) (hi : ev ρ i = .int kd (j : Int)) (h : j < s.size) : Rn P ρ ⟨d, .index t x i, ty, pos, af, none⟩ w (.int .u8 ((nums8 s)[j]'(by rw [nums8_len]; exact h))) := by
  refine ⟨rfl, fun w' _ => ?_⟩
  rw [nums8_get h]
  simp [execOp, hx, hi, Instr.index, asIntOf, run_underlying ht, h]
/-! ### Arrays of bytes, compared -/
theorem run_eqItems_byts {e : TypeId} (he : P.underlying e = some (.int .u8)) (hc : P.cellsOf e = 1) (dd : Nat) (xs ys : List Int) (w : World) : ∀ (is : List Nat), (∀ i, i ∈ is → i < xs.length ∧ i < ys.length) →
    (Op.eqItems (dd + 1) e 1 (byts xs).toArray (byts ys).toArray is).run P w = .ok (decide (∀ i, i ∈ is → xs[i]? = ys[i]?)) w := by
  intro is
  induction is with
  | nil => intro _; simp [Op.eqItems]
  | cons i is ih =>
    intro h
    obtain ⟨h1, h2⟩ := h i (by simp)
    have hp : ∀ (zs : List Int) (hz : i < zs.length), (part e (byts zs).toArray (i * 1)).run P w = .ok (.int .u8 zs[i]) w := by
      intro zs hz
      simp [part, isAgg, run_underlying he, byts, hz]
    simp only [Op.eqItems, Sem.run_bind, hp xs h1, hp ys h2, Result.andThen_ok, run_equalIn_int w dd e .u8 .u8 xs[i] ys[i] he]
    by_cases e1 : xs[i] = ys[i]
    · simp only [e1, beq_self_eq_true]
      simp [ih (fun j hj => h j (by simp [hj])), h1, h2, e1]
    · have : (xs[i] == ys[i]) = false := by simpa using e1
      simp [this, h1, h2, e1]
theorem eq_of_range {xs ys : List Int} {m : Nat} (hx : xs.length = m) (hy : ys.length = m) : (∀ i, i ∈ List.range m → xs[i]? = ys[i]?) ↔ xs = ys := by
  constructor
  · intro h
    apply List.ext_getElem?
    intro i
    by_cases hi : i < m
    · exact h i (by simpa using hi)
    · rw [List.getElem?_eq_none (by omega), List.getElem?_eq_none (by omega)]
  · rintro rfl; simp
theorem run_eq_byts {t e : TypeId} {m : Nat} {z : Value} {by_ : Nat} (ht : P.underlying t = some (.array m e)) (he : P.underlying e = some (.int .u8)) (hi : TI P e z 1 by_) {xs ys : List Int} (hx : xs.length = m) (hy : ys.length = m) (w : World) :
    (Op.equal t (.agg (byts xs).toArray) (.agg (byts ys).toArray)).run P w = .ok (decide (xs = ys)) w := by
  obtain ⟨i0, hi0, _, hsz, _⟩ := hi.size
  have hc : P.cellsOf e = 1 := by simp [Program.cellsOf, hi0, hsz]
  unfold Op.equal
  rw [show Op.maxDepth = 9999 + 1 from rfl, run_equalIn_array w 9999 _ _ ht hi0, hc, show (9999 : Nat) = 9998 + 1 from rfl, run_eqItems_byts he hc 9998 xs ys w _ (fun i hi => by simp at hi; omega)]
  congr 1
  exact decide_eq_decide.2 (eq_of_range hx hy)
theorem ane {t u e : TypeId} {m : Nat} {z : Value} {by_ : Nat} {x y : Operand} {xs ys : List Int} (ht : P.underlying t = some (.array m e)) (he : P.underlying e = some (.int .u8)) (hi : TI P e z 1 by_) (hn : P.eqGuardType P.depth t = false) (hx : ev ρ x = .agg (byts xs).toArray) (hy : ev ρ y = .agg (byts ys).toArray) (lx : xs.length = m) (ly : ys.length = m) :
    Rn P ρ ⟨d, .binOp .neq t x y u, ty, pos, af, none⟩ w (.bool (!decide (xs = ys))) := by
  refine ⟨rfl, fun w' _ => ?_⟩
  simp only [execOp, hx, hy, Sem.run_bind, run_eqGuard_agg w' .neq t _ _ _ _ hn, Result.andThen_ok, binOp, run_eq_byts ht he hi lx ly, Sem.run_pure]
/-- 'block(x)': the array that a row of bytes begins with. -/
theorem lar {arr e : TypeId} {m : Nat} {x : Operand} {F : List Nat} {v : Value} {xs : List Int} {p : Addr} {c : Nat} {z : Value} {by_ : Nat} (ht : P.underlying arr = some (.array m e)) (hi : TI P arr z m by_) (hv : v = .slice (some p) xs.length c) (hR : (Kd.int .u8).R w F v xs) (hm : 0 < m ∧ m ≤ xs.length) (hx : ev ρ x = .pointer (some p)) : Rn P ρ ⟨d, .load arr x, ty, pos, af, none⟩ w (.agg (byts (xs.take m)).toArray) := by
  obtain ⟨p', c', e1, h⟩ := hR.ints (by omega)
  subst hv
  simp only [Value.slice.injEq, Option.some.injEq] at e1
  obtain ⟨rfl, _, rfl⟩ := e1
  refine la (byts (xs.take m)) ht rfl hi hx (by simp [byts]; omega) (fun j u hu => h j u ?_)
  rw [byts, List.map_take, List.getElem?_take] at hu
  split at hu
  · exact hu
  · cases hu
theorem Kd.R.adr {F : List Nat} {v : Value} {xs : List Int} {kd : IntKind} (hR : (Kd.int kd).R w F v xs) (hm : 0 < xs.length) : ∃ p c, v = .slice (some p) xs.length c := let ⟨p, c, e, _⟩ := hR.ints hm; ⟨p, c, e⟩

/-! ### copy -/
theorem run_firstR {F : List Nat} {v : Value} {ys : List Int} (hR : (Kd.int .u8).R w F v ys) (m : Nat) (hm : m ≤ ys.length) : (Builtin.firstCells 1 m v).run P w = .ok (byts (ys.take m)).toArray w := by
  obtain ⟨A, c, G, Fs, cs, rfl, hc, rfl, hG, hel, hr⟩ := hR
  obtain rfl := els_int_inv hel
  cases A with
  | none =>
    have hy : ys = [] := by
      cases ys with
      | nil => rfl
      | cons y ys => obtain ⟨ad, e1, _⟩ := hr 0 (.int .u8 y) (by simp); cases e1
    subst hy
    simp [Builtin.firstCells, byts]
  | some a =>
    have hl := run_loadCells_list (P := P) w a (byts (ys.take m)) (fun j u hu => by
      rw [byts, List.map_take, List.getElem?_take] at hu
      split at hu
      · obtain ⟨ad, e1, _, e3⟩ := hr j u hu
        injection e1 with e1
        subst e1; exact e3
      · cases hu)
    simp only [byts, List.length_map, List.length_take, Nat.min_eq_left hm] at hl
    simpa [Builtin.firstCells, byts] using hl
theorem run_firstS {s : ByteArray} (m : Nat) (hm : m ≤ s.size) : (Builtin.firstCells 1 m (.string s)).run P w = .ok (byts ((nums8 s).take m)).toArray w := by
  have e : (s.extract 0 m).data.map (fun b => Value.int .u8 (b.toNat : Int)) = (byts ((nums8 s).take m)).toArray := by
    apply Array.toList_inj.1
    simp [byts, nums8, ByteArray.extract, ByteArray.copySlice, List.map_take]
    rfl
  simp only [Builtin.firstCells, Sem.run_pure, e]
theorem splice_byts {xs ys : List Int} {o : Nat} : splice (byts xs) o (byts ys) = byts (xs.take o ++ ys ++ xs.drop (o + ys.length)) := by
  simp [splice, byts, List.map_take, List.map_drop]
/-- 'copy(b[o:], src)' into an array of one's own. -/
theorem run_copy_into {tt st e : TypeId} {z : Value} {by_ : Nat} {g o dl dc : Nat} {T : TypeId} {cs : List Value} {sv : Value} {ys : List Int} (ht : P.underlying tt = some (.slice e)) (hi : TI P e z 1 by_) (hB : B w g T cs) (hs : (Builtin.lenOf sv).run P w = .ok ys.length w)
    (hf : ∀ m, m ≤ ys.length → (Builtin.firstCells 1 m sv).run P w = .ok (byts (ys.take m)).toArray w) (hle : o + min ys.length dl ≤ cs.length) :
    ∃ w', (Builtin.copy_ #[tt, st] ty #[.slice (some ⟨g, o, none⟩) dl dc, sv]).run P w = .ok (.int .i64 ((min ys.length dl : Nat) : Int)) w' ∧ w'.heap.size = w.heap.size ∧ B w' g T (splice cs o (byts (ys.take (min ys.length dl)))) ∧ Ch [g] w w' := by
  obtain ⟨i0, hi0, _, hsz, _⟩ := hi.size
  have hr := run_storeCells_at P g o T (byts (ys.take (min ys.length dl))) 0 cs.toArray w hB (by simp [byts]; omega) (byts_one _)
  simp only [Nat.add_zero, List.toList_toArray] at hr
  have h1 := hf (min ys.length dl) (Nat.min_le_left _ _)
  have h2 := setRow_heap w g cs.toArray (cs.take o ++ byts (ys.take (min ys.length dl)) ++ cs.drop (o + (byts (ys.take (min ys.length dl))).length)).toArray T (0, 0) hB
  have h3 := ch_setRow w g (cs.take o ++ byts (ys.take (min ys.length dl)) ++ cs.drop (o + (byts (ys.take (min ys.length dl))).length)).toArray
  have h4 : (w.setRow g (cs.take o ++ byts (ys.take (min ys.length dl)) ++ cs.drop (o + (byts (ys.take (min ys.length dl))).length)).toArray).heap.size = w.heap.size := by simp [World.setRow]
  generalize w.setRow g (cs.take o ++ byts (ys.take (min ys.length dl)) ++ cs.drop (o + (byts (ys.take (min ys.length dl))).length)).toArray = W at hr h2 h3 h4
  refine ⟨W, ?_, h4, h2, h3⟩
  have hmin : Nat.min ys.length dl = min ys.length dl := rfl
  simp only [Builtin.copy_, List.getElem?_toArray, List.getElem?_cons_zero, List.getElem?_cons_succ, Sem.run_bind, run_underlying ht, Result.andThen_ok, hs, sizeOf, typeInfo, hi0, run_program, hsz, Sem.run_pure, hmin, h1, hr]
  simp [goInt, hr]
theorem run_lenR {α : Type} {dk : Kd α} {F : List Nat} {v : Value} {ys : List α} (hR : dk.R w F v ys) : (Builtin.lenOf v).run P w = .ok ys.length w := by
  obtain ⟨A, c, rfl, _⟩ := hR.shape
  simp [Builtin.lenOf]
theorem slv_blk {g m l : Nat} : slv (.slice (some ⟨g, 0, none⟩) m m) l m 1 = .slice (some ⟨g, if m = l then 0 else l, none⟩) (m - l) (m - l) := by
  by_cases e : m = l
  · simp [slv, e]
  · simp [slv, e, add_mk]
theorem run_copyop {tt st : TypeId} {x y : Operand} {r : Result Value} {dv sv : Value} (hx : ev ρ x = dv) (hy : ev ρ y = sv) (h : (Builtin.copy_ #[tt, st] ty #[dv, sv]).run P w = r) : (execOp (ev ρ) ⟨d, .call ⟨.builtin .copy, #[x, y], #[tt, st]⟩, ty, pos, af, none⟩).run P w = r.andThen (fun v w' => .ok (.value v) w') := by
  simp [execOp, resolve, invoke, builtin, hx, hy, h]
/-- Into an array of bytes, from l on; the source: a row, or a text. -/
theorem cpa {tt st e : TypeId} {z : Value} {by_ : Nat} {x y : Operand} {g l m : Nat} {T : TypeId} {F : List Nat} {sv : Value} {xs ys : List Int} (ht : P.underlying tt = some (.slice e)) (hi : TI P e z 1 by_) (hx : ev ρ x = slv (.slice (some ⟨g, 0, none⟩) m m) l m 1) (hy : ev ρ y = sv) (hB : B w g T (byts xs)) (hl : xs.length = m ∧ l ≤ m) (hR : (Kd.int .u8).R w F sv ys) :
    Ex P ρ ⟨d, .call ⟨.builtin .copy, #[x, y], #[tt, st]⟩, ty, pos, af, none⟩ w (fun r w' => r = .int .i64 (min ys.length (m - l) : Nat) ∧ w'.heap.size = w.heap.size ∧ B w' g T (byts (xs.take l ++ ys.take (m - l) ++ xs.drop (l + ys.length))) ∧ Ch [g] w w') := by
  rw [slv_blk] at hx
  obtain ⟨w', h1, h2, h3, h4⟩ := run_copy_into (P := P) (ty := ty) (st := st) (dl := m - l) (dc := m - l) (o := if m = l then 0 else l) ht hi hB (run_lenR hR) (fun m hm => run_firstR hR m hm) (by simp [byts]; split <;> omega)
  refine ⟨rfl, _, w', run_copyop hx hy h1, rfl, h2, ?_, h4⟩
  rw [splice_byts] at h3
  refine (congrArg (B w' g T) (congrArg byts ?_)).mp h3
  by_cases em : m = l
  · subst em
    simp only [if_true, Nat.sub_self, Nat.min_zero, List.take_zero, List.length_nil, List.append_nil, List.nil_append, Nat.add_zero, List.drop_zero]
    rw [List.take_of_length_le (Nat.le_of_eq hl.1), List.drop_eq_nil_of_le (by omega), List.append_nil]
  · rw [if_neg em]
    by_cases hle : ys.length ≤ m - l
    · rw [Nat.min_eq_left hle, List.take_length, List.take_of_length_le hle]
    · rw [Nat.min_eq_right (by omega), List.length_take, Nat.min_eq_left (by omega), show l + (m - l) = m by omega, List.drop_eq_nil_of_le (by omega), List.drop_eq_nil_of_le (by omega)]
theorem cpas {tt st e : TypeId} {z : Value} {by_ : Nat} {x y : Operand} {g l m : Nat} {T : TypeId} {s : ByteArray} {xs : List Int} (ht : P.underlying tt = some (.slice e)) (hi : TI P e z 1 by_) (hx : ev ρ x = slv (.slice (some ⟨g, 0, none⟩) m m) l m 1) (hy : ev ρ y = .string s) (hB : B w g T (byts xs)) (hl : xs.length = m ∧ l ≤ m) :
    Ex P ρ ⟨d, .call ⟨.builtin .copy, #[x, y], #[tt, st]⟩, ty, pos, af, none⟩ w (fun r w' => r = .int .i64 (min (nums8 s).length (m - l) : Nat) ∧ w'.heap.size = w.heap.size ∧ B w' g T (byts (xs.take l ++ (nums8 s).take (m - l) ++ xs.drop (l + (nums8 s).length))) ∧ Ch [g] w w') := by
  rw [slv_blk] at hx
  obtain ⟨w', h1, h2, h3, h4⟩ := run_copy_into (P := P) (ty := ty) (st := st) (ys := nums8 s) (sv := .string s) (dl := m - l) (dc := m - l) (o := if m = l then 0 else l) ht hi hB (by simp [Builtin.lenOf, nums8_len]) (fun m hm => run_firstS m (by rw [← nums8_len]; exact hm)) (by simp [byts]; split <;> omega)
  refine ⟨rfl, _, w', run_copyop hx hy h1, rfl, h2, ?_, h4⟩
  rw [splice_byts] at h3
  refine (congrArg (B w' g T) (congrArg byts ?_)).mp h3
  by_cases em : m = l
  · subst em
    simp only [if_true, Nat.sub_self, Nat.min_zero, List.take_zero, List.length_nil, List.append_nil, List.nil_append, Nat.add_zero, List.drop_zero]
    rw [List.take_of_length_le (Nat.le_of_eq hl.1), List.drop_eq_nil_of_le (by omega), List.append_nil]
  · rw [if_neg em]
    by_cases hle : (nums8 s).length ≤ m - l
    · rw [Nat.min_eq_left hle, List.take_length, List.take_of_length_le hle]
    · rw [Nat.min_eq_right (by omega), List.length_take, Nat.min_eq_left (by omega), show l + (m - l) = m by omega, List.drop_eq_nil_of_le (by omega), List.drop_eq_nil_of_le (by omega)]
end
end Go.Eng

namespace Go.Eng
set_option linter.unusedVariables false
set_option linter.unusedSimpArgs false
section
variable {P : Program} {n : Nat} {k : List It} {Qf : Exit → Act → World → Prop} {ρ : Fr} {ds : List Deferred} {w : World}
variable {ops : Array Oper} {rest : List Oper} {d : Option Nat} {ty : TypeId} {pos : String} {af : Array Edge}
/-- A new block. -/
def NewB (t : TypeId) (cs : List Value) (w : World) (v : Value) (w' : World) : Prop := ∃ g, g = w.heap.size ∧ v = .pointer (some ⟨g, 0, none⟩) ∧ w'.heap.size = g + 1 ∧ B w' g t cs ∧ Ch [] w w'
theorem xal {t : TypeId} {z : Value} {sz by_ : Nat} (hi : TI P t z sz by_) : Ex P ρ ⟨d, .alloc t, ty, pos, af, none⟩ w (NewB t z.cells.toList w) := by
  obtain ⟨i0, hi0, hz, _, _⟩ := info_parts hi
  refine ⟨rfl, .pointer (some ⟨w.heap.size, 0, none⟩), w.alloc (.cells z.cells t), ?_, _, rfl, rfl, by simp, alloc_B w, ch_alloc _ _⟩
  simp [execOp, Instr.alloc, zeroValue, typeInfo, hi0, hz, newVar, newRow, run_program]
theorem xbx {t : TypeId} {x : Operand} {v : Value} {cs : List Value} (hx : ev ρ x = v) (hv : v.cells.toList = cs) : Ex P ρ ⟨d, .box t x, ty, pos, af, none⟩ w (NewB t cs w) := by
  subst hv
  refine ⟨rfl, .pointer (some ⟨w.heap.size, 0, none⟩), w.alloc (.cells v.cells t), ?_, _, rfl, rfl, by simp, alloc_B w, ch_alloc _ _⟩
  simp [execOp, Instr.box, hx, newVar, newRow]
/-- A store into a block. -/
theorem xst {t T : TypeId} {p x : Operand} {g o : Nat} {cs vs : List Value} {v z : Value} {sz by_ : Nat} (hi : TI P t z sz by_) (hp : ev ρ p = .pointer (some ⟨g, o, none⟩)) (hx : ev ρ x = v) (hv : v.cells.toList = vs) (hB : B w g T cs) (hl : vs.length = sz) (ho : o + sz ≤ cs.length) (h1 : ∀ u, u ∈ vs → u.oneCell' = true) :
    Ex0 P ρ ⟨d, .store t p x, ty, pos, af, none⟩ w (fun w' => w'.heap.size = w.heap.size ∧ B w' g T (splice cs o vs) ∧ Ch [g] w w') := by
  subst hv
  obtain ⟨i0, hi0, hz, hsz, _⟩ := info_parts hi
  have hr := run_storeCells_at P g o T v.cells.toList 0 cs.toArray w hB (by simp only [Nat.add_zero, List.size_toArray]; omega) h1
  simp only [Nat.add_zero] at hr
  refine ⟨rfl, w.setRow g (cs.toArray.toList.take o ++ v.cells.toList ++ cs.toArray.toList.drop (o + v.cells.toList.length)).toArray, ?_, by simp [World.setRow], ?_, ch_setRow _ _ _⟩
  · have hl' : v.cells.size = sz := by rw [← hl]; simp
    simp [execOp, Instr.storeAt, Instr.sureAddr, hp, hx, storeVar, sizeOf, typeInfo, hi0, run_program, hsz, hl', hr]
  · have := setRow_heap w g cs.toArray (cs.take o ++ v.cells.toList ++ cs.drop (o + v.cells.toList.length)).toArray T (0, 0) hB
    simpa [B, splice] using this
theorem xsta {t T : TypeId} {p x : Operand} {g : Nat} {cs : List Value} {xs : List Int} {z : Value} {sz by_ : Nat} (hi : TI P t z sz by_) (hp : ev ρ p = .pointer (some ⟨g, 0, none⟩)) (hx : ev ρ x = .agg (byts xs).toArray) (hl : xs.length = sz) (hB : B w g T cs) (ho : cs.length = sz) :
    Ex0 P ρ ⟨d, .store t p x, ty, pos, af, none⟩ w (fun w' => w'.heap.size = w.heap.size ∧ B w' g T (byts xs) ∧ Ch [g] w w') := by
  obtain ⟨hg, w', h1, h2, h3, h4⟩ := xst (P := P) (d := d) (ty := ty) (pos := pos) (af := af) (vs := byts xs) hi hp hx rfl hB (by simpa [byts] using hl) (by omega) (byts_one xs)
  refine ⟨hg, w', h1, h2, ?_, h4⟩
  have e : splice cs 0 (byts xs) = byts xs := by
    simp only [splice, List.take_zero, List.nil_append, byts, List.length_map, Nat.zero_add]
    rw [List.drop_eq_nil_of_le (by omega), List.append_nil]
  rw [e] at h3; exact h3
/-- A new row. -/
def NewR {α : Type} (dk : Kd α) (e : TypeId) (xs : List α) (w : World) (v : Value) (w' : World) : Prop := ∃ F, dk.W e w' F v xs ∧ F.Nodup ∧ (∀ k, k ∈ F → w.heap.size ≤ k) ∧ Ch [] w w'
theorem xmk {α : Type} {dk : Kd α} {t e : TypeId} {x y : Operand} {z : Value} {by_ : Nat} {m : Nat} {kl kc : IntKind} (a : α) (ht : P.underlying t = some (.slice e)) (hi : TI P e z dk.sz by_) (hz : ∀ w, dk.O w [] a z.cells.toList) (hx : ev ρ x = .int kl (m : Int)) (hy : ev ρ y = .int kc (m : Int)) (hb : by_ * m ≤ 281474976710656 ∧ m ≤ 281474976710656) :
    Ex P ρ ⟨d, .makeSlice t x y, ty, pos, af, none⟩ w (NewR dk e (List.replicate m a) w) := by
  obtain ⟨i0, hi0, hz0, hsz, hby⟩ := hi.size
  obtain ⟨w', hr, ho, hg⟩ := run_make_full (P := P) (w := w) w.heap.size t e i0 z dk.sz ht hi0 hz0 hsz kl kc m (by rw [hby]; exact hb.1) (by simp only [maxLen]; omega) (Nat.le_refl _)
  have hzs : z.cells.size = dk.sz := by have := dk.len (dk.own (hz w)); simpa using this
  refine ⟨rfl, .slice (some ⟨w.heap.size, 0, none⟩) m m, w', by simp [execOp, hx, hy, hr], [w.heap.size], ⟨[], (madeCells z.cells (m * dk.sz)).toList, ?_, by simp [Value.ownBlock], ?_⟩, by simp, fun k hk => by rw [List.mem_singleton.1 hk]; exact Nat.le_refl _, ⟨hg.os, hg.tape, hg.output, hg.size, fun k hk _ => hg.block k hk (by simp)⟩⟩
  · obtain ⟨h1, h2⟩ := ho
    rw [List.length_replicate]
    refine ⟨h1, ?_⟩
    rcases h2 with h2 | ⟨g, cap, cur, hv, hg', r⟩
    · exact .inl h2
    · exact .inr ⟨g, cap, cur, hv, Nat.zero_le _, r⟩
  · rw [← hzs, made_flat z.cells (by rw [hzs]; exact dk.pos)]
    exact els_made (hz w') m
theorem xbs0 {α : Type} {dk : Kd α} {t e : TypeId} {z : Value} {by_ : Nat} (ht : P.underlying t = some (.slice e)) (hi : TI P e z dk.sz by_) : Ex P ρ ⟨d, .buildSlice t 0 #[], ty, pos, af, none⟩ w (NewR dk e [] w) := by
  obtain ⟨i0, hi0, hz0, hsz, _⟩ := hi.size
  refine ⟨rfl, .slice (some ⟨w.heap.size, 0, none⟩) 0 0, w.alloc (.cells #[] e), ?_, [w.heap.size], ⟨[], [], World.ownsRow_made w #[] 0 (Nat.zero_le _) (by unfold maxLen; omega) (by simp), by simp [Value.ownBlock], rfl, rfl⟩, by simp, fun k hk => by rw [List.mem_singleton.1 hk]; exact Nat.le_refl _, ch_alloc _ _⟩
  simp [execOp, Instr.buildSlice, run_underlying ht, sizeOf, typeInfo, hi0, run_program, Instr.fill, newRow]
  congr 2
  exact Array.eq_empty_of_size_eq_zero (by simp)
/-- A literal of one element, of whatever make. -/
theorem xbs1 {t e : TypeId} {z vx : Value} {x : Operand} {cs : List Value} {sz by_ : Nat} (ht : P.underlying t = some (.slice e)) (hi : TI P e z sz by_) (hz : z.cells.size = sz) (hp : (Nat.blt 0 sz && Nat.ble sz 1000) = true) (hx : ev ρ x = vx) (hv : vx.cells.toList = cs) (hl : cs.length = sz) :
    Ex P ρ ⟨d, .buildSlice t 1 #[(0, x)], ty, pos, af, none⟩ w (fun v w' => ∃ g, g = w.heap.size ∧ v = .slice (some ⟨g, 0, none⟩) 1 1 ∧ w'.heap.size = g + 1 ∧ B w' g e cs ∧ Ch [] w w') := by
  subst hv
  simp only [Bool.and_eq_true, Nat.blt_eq, Nat.ble_eq] at hp
  have hlx : vx.cells.size = sz := by rw [← hl]; simp
  have hrun := run_bs1 (P := P) ht hi hz hp.1 hlx hp.2 w
  refine ⟨rfl, _, w.alloc (.cells vx.cells e), ?_, w.heap.size, rfl, rfl, by simp, alloc_B w, ch_alloc _ _⟩
  simp [execOp, hx, hrun]
/-- 's = append(s, lit...)': lit: a block of elements that own what is G. -/
theorem xapb {α : Type} {dk : Kd α} {t e T : TypeId} {z : Value} {by_ : Nat} {s x : Operand} {F G : List Nat} {v : Value} {xs ys : List α} {g c : Nat} {cs : List Value}
    (ht : P.underlying t = some (.slice e)) (hi : TI P e z dk.sz by_) (hz : z.cells.size = dk.sz) (hs : ev ρ s = v) (hx : ev ρ x = .slice (some ⟨g, 0, none⟩) ys.length c) (hW : dk.W e w F v xs) (hB : B w g T cs) (hE : Els (dk.O w) G ys cs) (hn : (F ++ G).Nodup) (hb : (xs.length + ys.length) * by_ ≤ 140737488355328 ∧ xs.length + ys.length ≤ 140737488355328) :
    Ex P ρ ⟨d, .call ⟨.builtin .append, #[s, x], #[t, t]⟩, ty, pos, af, none⟩ w (fun v' w' => ∃ F', Apd dk e w w' F G F' v v' (xs ++ ys)) := by
  obtain ⟨v', w', F', hr, hA⟩ := run_ap (P := P) (ty := ty) (dk := dk) (w := w) ht hi hz hW (G := G) (ys := ys) hn ⟨g, 0, none⟩ c cs hE (fun j u hu => by rw [add_mk, hB.cell, Nat.zero_add]; exact hu) hb.1 hb.2
  exact ⟨rfl, v', w', by simp [execOp, resolve, invoke, builtin, hs, hx, hr], F', hA⟩
theorem els_one {α : Type} {R : List Nat → α → List Value → Prop} {G : List Nat} {x : α} {cs : List Value} (h : R G x cs) : Els R G [x] cs := ⟨G, [], cs, [], by simp, by simp, h, rfl, rfl⟩
end
section
variable {P : Program} {ρ : Fr} {w : World} {d : Option Nat} {ty : TypeId} {pos : String} {af : Array Edge}
def ifD : TypeDesc → Bool
  | .interface _ => true
  | _ => false
theorem mif {t : TypeId} {x : Operand} {v : Value} {D : TypeDesc} (ht : P.underlying t = some D) (hD : ifD D = false) (hx : ev ρ x = v) : Rn P ρ ⟨d, .makeInterface t x, ty, pos, af, none⟩ w (.iface t v) := by
  refine ⟨rfl, fun w' _ => ?_⟩
  cases D <;> simp [ifD] at hD <;> simp [execOp, hx, Instr.makeInterface, run_underlying ht]
theorem orl {t u : TypeId} {x y : Operand} {a b : Int} (c : Int) (hx : ev ρ x = .int .i64 a) (hy : ev ρ y = .int .i64 b) (hc : bits .or .i64 a b = c) : Rn P ρ ⟨d, .binOp .or t x y u, ty, pos, af, none⟩ w (.int .i64 c) :=
  ⟨rfl, fun w' _ => by simp [execOp, hx, hy, eqGuard, binOp, show Op.intBits .or .i64 a b = pure (.int .i64 (bits .or .i64 a b)) from rfl, hc]⟩
end
/-! ### A Bool that is known -/
section
variable {P : Program} {n : Nat} {k : List It} {Qf : Exit → Act → World → Prop} {ρ : Fr} {ds : List Deferred} {w : World} {ops : Array Oper} {rest : List Oper} {K : Fr → World → Prop} {K1 : Fr → Prop} {Kp : List PanicEntry → World → Prop} {S' : World → Prop} {fuel : Nat} {listed : Array Bool}
theorem spf (t : Nat) {b c : Bool} (ht : ρ t = .bool b) (hb : b = c) (h : L P n ops rest k Qf (upd ρ t (.bool c)) ds w) : L P n ops rest k Qf ρ ds w := by
  subst hb; rwa [upd_self ρ t _ ht] at h
end
/-! ### Calls in a drawn region -/
section
variable {P : Program} {n : Nat} {k : List It} {Qf : Exit → Act → World → Prop} {ρ : Fr} {ds : List Deferred} {w : World} {ops : Array Oper} {K : Fr → World → Prop} {Kp : List PanicEntry → World → Prop} {S' : World → Prop} {fuel : Nat} {listed : Array Bool}
theorem eucr {i : Nat} {oi : Oper} {f : FuncId} {args : Array Value} {w1 : World} {Φ : Value → World → Prop} (hi : ops[i]? = some oi) (hg : oi.guard = none) (hrun : (execOp (ev ρ) oi).run P w = .ok (.enter f args) w1) (hc : Ret P f args w1 Φ)
    (h : ∀ v w', Φ v w' → ((listed.setIfInBounds i true).all id = true ∨ S' w') ∧ De P n ops K Kp S' fuel (listed.setIfInBounds i true) (updo ρ oi.dst v) ds w') : Ue P n ops K Kp S' fuel listed i ρ ds w := by
  intro hl a ha
  unfold wpOp
  simp only [hi, Region.wanted, hg, if_true]
  refine .inl ?_
  unfold Oper.wp
  rw [ha.eval, hrun]
  refine Calls.mono hc fun e w' ⟨v, he, hv⟩ => ?_
  subst he
  obtain ⟨h1, h2⟩ := h v w' hv
  exact ⟨h1, fun hcl => h2 hl hcl h1 _ (ha.put oi.dst (okl_at hl (by simpa using hi)) v)⟩
theorem euc {i : Nat} {d : Option Nat} {ty : TypeId} {pos : String} {af : Array Edge} {f : FuncId} {xs : Array Operand} {vs : List Value} {ts : Array TypeId} {Φ : Value → World → Prop} (hi : ops[i]? = some ⟨d, .call ⟨.value (.func f), xs, ts⟩, ty, pos, af, none⟩) (hg : Goes P f) (hx : xs.toList.map (ev ρ) = vs) (hc : Ret P f vs.toArray w Φ)
    (h : ∀ v w', Φ v w' → ((listed.setIfInBounds i true).all id = true ∨ S' w') ∧ De P n ops K Kp S' fuel (listed.setIfInBounds i true) (updo ρ d v) ds w') : Ue P n ops K Kp S' fuel listed i ρ ds w := by
  refine eucr hi rfl ?_ hc h
  rw [← arr hx]
  simp [execOp, resolve, Deferred.ofValue, invoke, ev, hg _ w]
theorem eucv {i : Nat} {d : Option Nat} {ty : TypeId} {pos : String} {af : Array Edge} {x : Operand} {f : FuncId} {cap : List Value} {xs : Array Operand} {vs : List Value} {ts : Array TypeId} {Φ : Value → World → Prop} (hi : ops[i]? = some ⟨d, .call ⟨.value x, xs, ts⟩, ty, pos, af, none⟩) (hx : ev ρ x = .func (.func f) #[] cap.toArray) (hg : Goes P f) (hxs : xs.toList.map (ev ρ) = vs) (hc : Ret P f (vs ++ cap).toArray w Φ)
    (h : ∀ v w', Φ v w' → ((listed.setIfInBounds i true).all id = true ∨ S' w') ∧ De P n ops K Kp S' fuel (listed.setIfInBounds i true) (updo ρ d v) ds w') : Ue P n ops K Kp S' fuel listed i ρ ds w := by
  refine eucr hi rfl ?_ hc h
  have := arr hxs
  simp [execOp, resolve, Deferred.ofValue, invoke, hx, hg _ w, this]
/-- A guarded call that is made. -/
theorem eucg {i : Nat} {d : Option Nat} {ty : TypeId} {pos : String} {af : Array Edge} {f : FuncId} {xs : Array Operand} {vs : List Value} {ts : Array TypeId} {j t : Nat} {b : Bool} {Φ : Value → World → Prop} (hi : ops[i]? = some ⟨d, .call ⟨.value (.func f), xs, ts⟩, ty, pos, af, some (j, b)⟩) (hj : (ops[j]?).bind (·.dst) = some t) (ht : ρ t = .bool b) (hn : Nat.blt t n = true) (hg : Goes P f) (hx : xs.toList.map (ev ρ) = vs) (hc : Ret P f vs.toArray w Φ)
    (h : ∀ v w', Φ v w' → ((listed.setIfInBounds i true).all id = true ∨ S' w') ∧ De P n ops K Kp S' fuel (listed.setIfInBounds i true) (updo ρ d v) ds w') : Ue P n ops K Kp S' fuel listed i ρ ds w := by
  intro hl a ha
  unfold wpOp
  simp only [hi, Region.wanted, yld (ops := ops) ha hj ht hn, vb, beq_self_eq_true, if_true]
  refine .inl ?_
  unfold Oper.wp
  have hrun : (execOp (ev ρ) ⟨d, .call ⟨.value (.func f), xs, ts⟩, ty, pos, af, some (j, b)⟩).run P w = .ok (.enter f vs.toArray) w := by
    rw [← arr hx]
    simp [execOp, resolve, Deferred.ofValue, invoke, ev, hg _ w]
  rw [ha.eval, hrun]
  refine Calls.mono hc fun e w' ⟨v, he, hv⟩ => ?_
  subst he
  obtain ⟨h1, h2⟩ := h v w' hv
  exact ⟨h1, fun hcl => h2 hl hcl h1 _ (ha.put d (okl_at hl (by simpa using hi)) v)⟩
end
/-- A row of bytes that is read alone (what '[]byte(s)' makes). -/
def rT (v : Value) (xs : List Int) : Rs where
  P w F := (Kd.int .u8).R w F v xs
  mv := fun {w w' F} hm h => by
    obtain ⟨A, c, G, Fs, cs, rfl, hc, rfl, hG, he, hr⟩ := h
    refine ⟨A, c, G, Fs, cs, rfl, hc, rfl, fun k hk => ?_, he.imp (fun _ _ _ _ h => h), fun j u hu => ?_⟩
    · have h1 := hm k (List.mem_append_left _ hk)
      have h2 := hG k hk
      rw [Array.getElem?_eq_getElem h2] at h1
      exact (Array.getElem?_eq_some_iff.1 h1).1
    · obtain ⟨ad, e1, e2, e3⟩ := hr j u hu
      refine ⟨ad, e1, e2, ?_⟩
      rw [World.cell?_of_block (w := w) (by rw [add_block]; exact hm _ (List.mem_append_left _ e2))]
      exact e3
  lt := fun h => h.lt
section
variable {w0 w w' : World} {F0 : List Nat} {Γ Δ : List Rs} {i : Nat}
theorem Hold.newr {α : Type} {dk : Kd α} {e : TypeId} {xs : List α} {v : Value} (H : Hold w0 F0 w Γ) (h : NewR dk e xs w v w') : Hold w0 F0 w' (Γ ++ [rR dk e v xs]) := by
  obtain ⟨F, hW, n, f, c⟩ := h
  exact H.new (r := rR dk e v xs) hW n f c
/-- An append that takes a second resource into the row: the two stand first. -/
theorem Hold.apd2 {α : Type} {dk : Kd α} {e : TypeId} {v v' : Value} {xs ys : List α} {F G F' FG : List Nat} (K : ∀ w' Γ' F', Hs w' Γ' F' → Turn w w' FG F' → Hold w0 F0 w' (Γ' ++ Δ)) (hFG : FG = F ++ G) (hW : dk.W e w F v ys) (A : Apd dk e w w' F G F' v v' xs) : Hold w0 F0 w' (rR dk e v' xs :: Δ) := by
  subst hFG
  refine K w' [rR dk e v' xs] F' (Hs.one (r := rR dk e v' xs) A.W) ⟨A.nd, fun k hk => ?_, A.ch.mono (fun k hk _ => List.mem_append_left _ (W_own hW k hk))⟩
  rcases A.sub k hk with h | h | h
  · exact .inl (List.mem_append_left _ h)
  · exact .inl (List.mem_append_right _ h)
  · exact .inr h
/-- The first of them, the others being elsewhere. -/
theorem Hold.frontx (H : Hold w0 F0 w (Γ ++ Δ)) : ∃ F, Hs w Γ F ∧ F.Nodup ∧ (∀ w' Γ' F', Hs w' Γ' F' → Turn w w' F F' → Hold w0 F0 w' (Γ' ++ Δ)) ∧ (∀ (i : Nat) (r : Rs), Δ[i]? = some r → ∃ Fi, r.P w Fi ∧ ∀ k, k ∈ Fi → k ∉ F) ∧ (∀ k, k ∈ F → k ∈ F0 ∨ w0.heap.size ≤ k) := by
  have H' := H
  obtain ⟨F, h, n, s, c⟩ := H
  obtain ⟨F1, F2, rfl, h1, h2⟩ := h.split
  obtain ⟨n1, n2, n3⟩ := nodup_app.1 n
  refine ⟨F1, h1, n1, fun w' Γ' F' h' T => ⟨F' ++ F2, h'.app (h2.mv fun k hk => T.ch.blk k (h2.lt k hk) (fun hk' => n3 k hk' hk)), nodup_app.2 ⟨T.nd, n2, fun k hk hk2 => ?_⟩, fun k hk => ?_, ?_⟩, fun i r hi => ?_, fun k hk => s k (List.mem_append_left _ hk)⟩
  · rcases T.sub k hk with hk' | hk'
    · exact n3 k hk' hk2
    · have := h2.lt k hk2; omega
  · rcases List.mem_append.1 hk with hk | hk
    · rcases T.sub k hk with hk' | hk'
      · exact s k (List.mem_append_left _ hk')
      · exact .inr (Nat.le_trans c.size hk')
    · exact s k (List.mem_append_right _ hk)
  · exact c.trans T.ch (fun k hk hl => (s k (List.mem_append_left _ hk)).resolve_right (by omega))
  · obtain ⟨Fa, Fi, Fb, rfl, _, hp, _⟩ := h2.pick hi
    exact ⟨Fi, hp, fun k hk hk' => n3 k hk' (by simp [hk])⟩
theorem dis_of {G F0 F : List Nat} {n : Nat} (hl : ∀ k, k ∈ G → k < n) (hd : ∀ k, k ∈ G → k ∉ F0) (s : ∀ k, k ∈ F → k ∈ F0 ∨ n ≤ k) : ∀ k, k ∈ G → k ∉ F := fun k hk hf => (s k hf).elim (hd k hk) (fun h => by have := hl k hk; omega)
theorem dis_of0 {G F : List Nat} {n : Nat} (hl : ∀ k, k ∈ G → k < n) (s : ∀ k, k ∈ F → k ∈ ([] : List Nat) ∨ n ≤ k) : ∀ k, k ∈ G → k ∉ F := dis_of hl (fun k _ h => by cases h) s
theorem Ret.hold {P : Program} {f : FuncId} {args : Array Value} {α : Type} {d : Kd α} {e : TypeId} {xs : List α} (h : Ret P f args w (fun r w' => (∃ F, d.W e w' F r xs ∧ F.Nodup ∧ ∀ k, k ∈ F → w.heap.size ≤ k) ∧ Ch [] w w')) : Ret P f args w (fun r w' => Hold w [] w' [rR d e r xs]) :=
  h.mono fun r w' hh => by
    obtain ⟨⟨F, hW, n, f⟩, c⟩ := hh
    exact ⟨F, Hs.one (r := rR d e r xs) hW, Turn.new n f c⟩
/-- Out of the contracts in the elder form. -/
theorem hold_new {α : Type} {d : Kd α} {e : TypeId} {v : Value} {xs : List α} (h : ∃ F, d.W e w' F v xs ∧ F.Nodup ∧ ∀ k, k ∈ F → w.heap.size ≤ k) (c : Ch [] w w') : Hold w [] w' [rR d e v xs] := by
  obtain ⟨F, hW, n, f⟩ := h
  exact ⟨F, Hs.one (r := rR d e v xs) hW, Turn.new n f c⟩
/-- The row that a block is; the block that a row is not any more. -/
theorem Hold.asrow {α : Type} {dk : Kd α} {e : TypeId} {g m : Nat} {xs : List α} {cs : List Value} (H : Hold w0 F0 w Γ) (i : Nat) (hi : Γ[i]? = some (rB g e cs)) (hE : Els (dk.O w) [] xs cs) (hm : xs.length = m ∧ m ≤ maxLen) (he : Γ.set i (rR dk e (.slice (some ⟨g, 0, none⟩) m m) xs) = Δ) : Hold w0 F0 w Δ := by
  obtain ⟨F, ⟨rfl, hB⟩, n, s, K⟩ := H.pick i hi
  obtain ⟨rfl, hm⟩ := hm
  exact K w (rR dk e (.slice (some ⟨g, 0, none⟩) xs.length xs.length) xs) [g] Δ (row_of_B hB hE hm) (Turn.own (by simp) (fun k hk => hk) (Ch.refl _ _)) he
theorem Hold.nilrow {α : Type} (dk : Kd α) (e : TypeId) (H : Hold w0 F0 w Γ) : Hold w0 F0 w (Γ ++ [rR dk e (.slice none 0 0) []]) := H.new (r := rR dk e (.slice none 0 0) []) (Kd.nil_W dk e w) (by simp) (fun k hk => by cases hk) (Ch.refl _ _)
end
end Go.Eng

namespace Go.Eng
set_option linter.unusedVariables false
set_option linter.unusedSimpArgs false
section
variable {P : Program} {n : Nat} {k : List It} {Qf : Exit → Act → World → Prop} {ρ : Fr} {ds : List Deferred} {w : World} {ops : Array Oper} {rest : List Oper} {d : Option Nat} {ty : TypeId} {pos : String} {af : Array Edge}
/-- The deferred call of a function literal without arguments. -/
abbrev dcall (f : FuncId) (cap : List Value) : Deferred := { target := .fn (.func f) cap.toArray, args := #[] }
theorem dfr {x : Operand} {f : FuncId} {cap : List Value} (hx : ev ρ x = .func (.func f) #[] cap.toArray) (h : L P n ops rest k Qf (updo ρ d undef) (dcall f cap :: ds) w) : L P n ops (⟨d, .defer ⟨.value x, #[], #[]⟩, ty, pos, af, none⟩ :: rest) k Qf ρ ds w := by
  intro hl hk a ha
  simp only [okl, Bool.and_eq_true] at hl
  refine wpList_plain rfl fun K hK => ?_
  unfold Oper.wp
  have hrun : (execOp (ev ρ) ⟨d, .defer ⟨.value x, #[], #[]⟩, ty, pos, af, none⟩).run P w = .ok (.defer (dcall f cap)) w := by
    simp [execOp, resolve, Deferred.ofValue, hx]
  rw [ha.eval, hrun]
  refine hK _ _ (h hl.2 hk _ ?_)
  have ha' : Sim n ρ (dcall f cap :: ds) { a with defers := dcall f cap :: a.defers } := ⟨ha.size, by simp [ha.defers], ha.slot⟩
  exact ha'.put d hl.1 undef
def FinD (P : Program) (fn : Func) (Φ : Value → World → Prop) : Exit → Act → World → Prop := bodyPostD P fn fun e w' => ∃ v, e = .returned v ∧ Φ v w'
theorem enterD {f : FuncId} {fn : Func} {c : Code} {args : Array Value} {Φ : Value → World → Prop} (hf : P.funcs[f]? = some fn) (hb : fn.body = some c) (hn : fn.ntmps = n)
    (hok : okc n c = true) (hs : Nat.ble args.size n = true) (h : S P n [.c c] (FinD P fn Φ) (ini args) [] w) : Ret P f args w Φ := by
  refine calls_of_wp_defers hf hb ?_
  have hs' : args.size ≤ n := Nat.le_of_ble_eq_true hs
  refine h (by simp [okk, hok]) _ ⟨by simp [hn]; omega, rfl, fun t => ?_⟩
  simp only [ini, Array.getD_eq_getD_getElem?, Array.getElem?_append]
  split
  · rfl
  · rename_i hlt
    rw [Array.getElem?_eq_none (Nat.le_of_not_lt hlt)]
    simp only [Array.getElem?_replicate]
    split <;> rfl
/-- The deferred call comes back, and the panic, if there was one, is over. -/
def Dfd (P : Program) (f : FuncId) (cap : List Value) (u : FrameMode) (w : World) (Ψ : World → Prop) : Prop := CallsD P f cap.toArray u w (fun e u' w' => (∃ v, e = .returned v) ∧ settle u' = .returning ∧ Ψ w')
theorem leaves_dfd {fn : Func} {Φ : Value → World → Prop} {f : FuncId} {cap : List Value} {u : FrameMode} {Ψ : World → Prop} {a : Act} (hu : u ≠ .run) (hg : Goes P f) (hc : Dfd P f cap u w Ψ) (h : ∀ w', Ψ w' → S P n [] (Fin P fn Φ) ρ [] w') (ha : Sim n ρ [dcall f cap] a) :
    Leaves P fn a.tmps (fun e w' => ∃ v, e = .returned v ∧ Φ v w') a.defers u w := by
  rw [ha.defers]
  refine leaves_cons (f := f) (args := cap.toArray) hu (by simp [invoke, hg _ w]) (CallsD.mono (show CallsD P f cap.toArray u w (fun e u' w' => (∃ v, e = .returned v) ∧ settle u' = .returning ∧ Ψ w') from hc) fun e u' w' hh => ?_)
  obtain ⟨⟨v, he⟩, hs, hΨ⟩ := hh
  subst he
  simp only [hs]
  obtain ⟨_, v', hr, hR⟩ := h w' hΨ rfl { a with defers := [] } ⟨ha.size, rfl, ha.slot⟩
  exact ⟨v', hr, hR⟩
theorem finD {fn : Func} {Φ : Value → World → Prop} {f : FuncId} {cap : List Value} {Ψ : World → Prop} (hg : Goes P f) (hc : Dfd P f cap .returning w Ψ) (h : ∀ w', Ψ w' → S P n [] (Fin P fn Φ) ρ [] w') : S P n [] (FinD P fn Φ) ρ [dcall f cap] w :=
  fun _ a ha => leaves_dfd (by simp) hg hc h ha
theorem finDp {fn : Func} {Φ : Value → World → Prop} {f : FuncId} {cap : List Value} {Ψ : World → Prop} {c : List PanicEntry} {a : Act} (hg : Goes P f) (hc : Dfd P f cap (.panicking c) w Ψ) (h : ∀ w', Ψ w' → S P n [] (Fin P fn Φ) ρ [] w') (ha : Sim n ρ [dcall f cap] a) : FinD P fn Φ (.panic c) a w :=
  leaves_dfd (by simp) hg hc h ha
theorem rtd {fn : Func} {Φ : Value → World → Prop} (h : S P n [] (FinD P fn Φ) ρ ds w) : S P n (.c .ret :: k) (FinD P fn Φ) ρ ds w :=
  fun hk a ha => wp_ret (den_ret k a w (h rfl a ha))
/-- A result of one cell that lies in memory. -/
theorem fincs {fn : Func} {Φ : Value → World → Prop} {p : Nat} {t T : TypeId} {D : TypeDesc} {g : Nat} {cs : List Value} {v : Value} (hr : fn.results = #[.cell p t]) (ht : P.underlying t = some D) (hD : aggD D = false) (hp : ρ p = .pointer (some ⟨g, 0, none⟩)) (hB : B w g T cs) (hc : cs[0]? = some v) (h : Φ v w) : S P n [] (Fin P fn Φ) ρ [] w := by
  refine fing (v := v) (fun tmps ht' => ?_) h
  have e := ht' p
  rw [hp] at e
  simp only [Array.getD_eq_getD_getElem?] at e
  have hc' : w.cell? ⟨g, 0, none⟩ = some v := (hB.cell 0).trans hc
  have hl : (loadVar t ⟨g, 0, none⟩).run P w = .ok v w := by
    cases D <;> simp [aggD] at hD <;> simp [loadVar, isAgg, run_underlying ht, hc']
  simp [results, hr, e, asAddr, hl]
/-! ### A function literal that is deferred and begins with recover() -/
theorem recS {f : FuncId} {fn : Func} {id : Nat} {t : Nat} {y : Code} {args : Array Value} {ty : TypeId} {pos : String} {af : Array Edge} {ts : Array TypeId} {Φ : Value → World → Prop} {u u1 : FrameMode} {v : Value} (hf : P.funcs[f]? = some fn) (hb : fn.body = some (.seq (.region id #[⟨some t, .call ⟨.builtin .recover, #[], ts⟩, ty, pos, af, none⟩] false) y)) (hn : fn.ntmps = n)
    (hok : (Nat.blt t n && okc n y) = true) (hs : Nat.ble args.size n = true) (hv : (match u with | .panicking ({ v := v', recovered := false, goexit := false } :: older) => (v', FrameMode.panicking ({ v := v', recovered := true } :: older)) | u => (.nilIface, u)) = (v, u1)) (h : S P n [.c y] (Fin P fn Φ) (upd (ini args) t v) [] w) :
    CallsD P f args u w (fun e u' w' => (∃ r, e = .returned r ∧ Φ r w') ∧ u' = u1) := by
  simp only [Bool.and_eq_true] at hok
  refine callsD_of_wpS hf hb fun c₀ cs hu => ?_
  refine wpS_seq (wpS_region ?_)
  have hs' : args.size ≤ n := Nat.le_of_ble_eq_true hs
  have hsim : Sim n (ini args) [] { tmps := args ++ Array.replicate (fn.ntmps - args.size) undef, defers := [] } := by
    refine ⟨by simp [hn]; omega, rfl, fun t => ?_⟩
    simp only [ini, Array.getD_eq_getD_getElem?, Array.getElem?_append]
    split
    · rfl
    · rename_i hlt
      rw [Array.getElem?_eq_none (Nat.le_of_not_lt hlt)]
      simp only [Array.getElem?_replicate]
      split <;> rfl
  generalize ({ tmps := args ++ Array.replicate (fn.ntmps - args.size) undef, defers := [] } : Act) = a at hsim
  have hrun : ∀ (e : Operand → Value), (execOp e ⟨some t, .call ⟨.builtin .recover, #[], ts⟩, ty, pos, af, none⟩).run P w = .ok .recover w := fun e => by simp [execOp, resolve, invoke, builtin]
  have key : ∀ cs', cs' = { c₀ with mode := u1 } :: cs → y.wpS P (bodyPostS P fn c₀ cs (fun e u' w' => (∃ r, e = .returned r ∧ Φ r w') ∧ u' = u1)) (a.put (some t) v) cs' w := by
    intro cs' hcs
    refine wpS_of_wp (wp_mono (h (by simp [okk, hok.2]) _ (hsim.put (some t) (by simpa [okd] using hok.1) v)) fun e a' w' he => ?_)
    cases e with
    | normal =>
      obtain ⟨h1, r, h2, r', h3, h4⟩ := he
      exact ⟨h1, u1, hcs, r, h2, ⟨r', h3, h4⟩, rfl⟩
    | ret =>
      obtain ⟨h1, r, h2, r', h3, h4⟩ := he
      exact ⟨h1, u1, hcs, r, h2, ⟨r', h3, h4⟩, rfl⟩
    | panic c => obtain ⟨_, r, h2, _⟩ := he; cases h2
    | outgrown => obtain ⟨r, h2, _⟩ := he; cases h2
    | exit id => exact he
    | goto l => exact he
  simp only [List.size_toArray, List.length_cons, List.length_nil, Nat.zero_add, List.range_one, wpOpsS, List.getElem?_toArray, List.getElem?_cons_zero, Region.wanted, if_true, hrun]
  have hc₀ : ({ c₀ with mode := u } : Frame) = c₀ := by subst hu; rfl
  subst hu
  simp only [recoverD]
  split
  · rename_i v' older cs' hrec
    split at hrec
    · rename_i v'' older' hm
      simp only [Option.some.injEq, Prod.mk.injEq] at hrec
      obtain ⟨rfl, rfl⟩ := hrec
      simp only [hm, Prod.mk.injEq] at hv
      obtain ⟨rfl, rfl⟩ := hv
      exact key _ rfl
    · cases hrec
  · rename_i hrec
    split at hrec
    · cases hrec
    · rename_i hm
      have : v = .nilIface ∧ u1 = c₀.mode := by
        revert hv
        split
        · rename_i v' older hm'
          exact absurd hm' (hm v' older)
        · intro e
          simp only [Prod.mk.injEq] at e
          exact ⟨e.1.symm, e.2.symm⟩
      obtain ⟨rfl, rfl⟩ := this
      exact key _ rfl
theorem Dfd.of {f : FuncId} {cap : List Value} {u u1 : FrameMode} {Φ : Value → World → Prop} {Ψ : World → Prop} (h : CallsD P f cap.toArray u w (fun e u' w' => (∃ r, e = .returned r ∧ Φ r w') ∧ u' = u1)) (hu : settle u1 = .returning) (hΨ : ∀ r w', Φ r w' → Ψ w') : Dfd P f cap u w Ψ :=
  CallsD.mono h fun e u' w' ⟨⟨r, he, hr⟩, h1⟩ => ⟨⟨r, he⟩, h1 ▸ hu, hΨ r w' hr⟩
/-- A type assertion with comma-ok, at a value of just that type. -/
theorem tas {x : Operand} {xt t : TypeId} {v : Value} {D : TypeDesc} (ht : P.underlying t = some D) (hD : ifD D = false) (hx : ev ρ x = .iface t v) : Rn P ρ ⟨d, .typeAssert x xt t true, ty, pos, af, none⟩ w (.tuple #[v, .bool true]) := by
  refine ⟨rfl, fun w' _ => ?_⟩
  cases D <;> simp [ifD] at hD <;> simp [execOp, hx, Instr.typeAssert, run_underlying ht]
theorem run_eqIn_iface {t tv : TypeId} {v : Value} {ms : Array (String × TypeId)} (ht : P.underlying t = some (.interface ms)) (m : Nat) (w : World) : (Op.equalIn (m + 1) t (.iface tv v) .nilIface).run P w = .ok false w := by
  simp only [Op.equalIn, Sem.run_bind, run_underlying ht, Result.andThen_ok, Sem.run_pure]
theorem run_eqIn_nil {t : TypeId} {ms : Array (String × TypeId)} (ht : P.underlying t = some (.interface ms)) (m : Nat) (w : World) : (Op.equalIn (m + 1) t .nilIface .nilIface).run P w = .ok true w := by
  simp only [Op.equalIn, Sem.run_bind, run_underlying ht, Result.andThen_ok, Sem.run_pure]
/-- An interface value against nil. -/
theorem ien {x : Operand} {t u tv : TypeId} {v : Value} {ms : Array (String × TypeId)} (ht : P.underlying t = some (.interface ms)) (hx : ev ρ x = .iface tv v) : Rn P ρ ⟨d, .binOp .eql t x (.const .nilIface) u, ty, pos, af, none⟩ w (.bool false) := by
  refine ⟨rfl, fun w' _ => ?_⟩
  have h1 : (Op.equal t (.iface tv v) .nilIface).run P w' = .ok false w' := run_eqIn_iface ht 9999 w'
  have h2 : (eqGuard .eql t x (.const .nilIface) (.iface tv v) .nilIface).run P w' = .ok () w' := by simp [eqGuard]
  have h3 : binOp .eql t (.iface tv v) .nilIface = (do pure (.bool (← Op.equal t (.iface tv v) .nilIface))) := rfl
  simp only [execOp, hx, show ev ρ (.const .nilIface) = .nilIface from rfl, Sem.run_bind, h2, Result.andThen_ok, h3, h1, Sem.run_pure]
theorem inn {x : Operand} {t u : TypeId} {ms : Array (String × TypeId)} (ht : P.underlying t = some (.interface ms)) (hx : ev ρ x = .nilIface) : Rn P ρ ⟨d, .binOp .eql t x (.const .nilIface) u, ty, pos, af, none⟩ w (.bool true) := by
  refine ⟨rfl, fun w' _ => ?_⟩
  have h1 : (Op.equal t .nilIface .nilIface).run P w' = .ok true w' := run_eqIn_nil ht 9999 w'
  have h2 : (eqGuard .eql t x (.const .nilIface) .nilIface .nilIface).run P w' = .ok () w' := by simp [eqGuard]
  have h3 : binOp .eql t .nilIface .nilIface = (do pure (.bool (← Op.equal t .nilIface .nilIface))) := rfl
  simp only [execOp, hx, show ev ρ (.const .nilIface) = .nilIface from rfl, Sem.run_bind, h2, Result.andThen_ok, h3, h1, Sem.run_pure]
end
end Go.Eng

namespace Go.Eng
set_option linter.unusedVariables false
set_option linter.unusedSimpArgs false
section
variable {P : Program} {n : Nat} {k : List It} {Qf : Exit → Act → World → Prop} {ρ : Fr} {ds : List Deferred} {w : World} {ops : Array Oper} {rest : List Oper} {d : Option Nat} {ty : TypeId} {pos : String} {af : Array Edge}
theorem nums8_app (a b : ByteArray) : nums8 (a ++ b) = nums8 a ++ nums8 b := by simp [nums8]
end
end Go.Eng

namespace Go.Eng
set_option linter.unusedVariables false
set_option linter.unusedSimpArgs false
/-- The answer of a list of pairs: the first that has the key. -/
def lookL : List (Int × Int) → Int → Option Int
  | [], _ => none
  | (a, v) :: m, k => if k = a then some v else lookL m k
def updL : List (Int × Int) → Int → Int → List (Int × Int)
  | [], k, v => [(k, v)]
  | (a, u) :: m, k, v => if k = a then (k, v) :: m else (a, u) :: updL m k v
def fset (f : Int → Option Int) (k v : Int) : Int → Option Int := fun x => if x = k then some v else f x
theorem lookL_upd (m : List (Int × Int)) (k v : Int) : lookL (updL m k v) = fset (lookL m) k v := by
  funext x
  induction m with
  | nil => simp [updL, lookL, fset]
  | cons p m ih =>
    obtain ⟨a, u⟩ := p
    simp only [fset] at ih
    by_cases h : k = a
    · subst h; simp only [updL, if_true, lookL, fset]
      by_cases hx : x = k <;> simp [hx]
    · simp only [updL, h, if_false, lookL, fset, ih]
      by_cases hx : x = k
      · subst hx; simp [h]
      · simp [hx]
def encM (es : List MapEntry) (m : List (Int × Int)) : Prop := es.map (fun e => (e.key, e.val)) = m.map (fun p => (Value.int .i64 p.1, Value.int .i64 p.2))
def MpI (w : World) (g : Nat) (f : Int → Option Int) : Prop := ∃ es clock m, w.heap[g]? = some (.map es clock) ∧ encM es.toList m ∧ lookL m = f
theorem MpI.t {w w' : World} {g : Nat} {f : Int → Option Int} (c : Ch [] w w') (h : MpI w g f) : MpI w' g f := by
  obtain ⟨es, clock, m, hb, he, hf⟩ := h
  exact ⟨es, clock, m, (c.blk g (Array.getElem?_eq_some_iff.1 hb).1 (by simp)).trans hb, he, hf⟩
def rM (g : Nat) (f : Int → Option Int) : Rs where
  P w F := F = [g] ∧ MpI w g f
  mv := fun hm h => ⟨h.1, by obtain ⟨es, c, m, hb, he⟩ := h.2; exact ⟨es, c, m, (hm g (by rw [h.1]; simp)).trans hb, he⟩⟩
  lt := fun h k hk => by
    rw [h.1] at hk; rw [List.mem_singleton.1 hk]
    obtain ⟨es, c, m, hb, he⟩ := h.2
    exact (Array.getElem?_eq_some_iff.1 hb).1
/-- Sought among the entries. -/
theorem findNow_enc : ∀ (es : List MapEntry) (m : List (Int × Int)) (k : Int) (i : Nat), encM es m → (lookL m k = none ∧ Instr.findNow (.int .i64) (.int .i64 k) es i = some none ∧ (∀ v, updL m k v = m ++ [(k, v)])) ∨
    ∃ j v, lookL m k = some v ∧ Instr.findNow (.int .i64) (.int .i64 k) es i = some (some (i + j, .int .i64 v)) ∧ (∃ e, es[j]? = some e ∧ e.key = .int .i64 k) ∧ ∀ v, updL m k v = m.set j (k, v)
  | [], [], k, i, _ => .inl ⟨rfl, rfl, fun _ => rfl⟩
  | [], _ :: _, _, _, h => by simp [encM] at h
  | _ :: _, [], _, _, h => by simp [encM] at h
  | e :: es, (a, v) :: m, k, i, h => by
    simp only [encM, List.map_cons, List.cons.injEq, Prod.mk.injEq] at h
    obtain ⟨⟨hk, hv⟩, ht⟩ := h
    by_cases hka : k = a
    · subst hka
      exact .inr ⟨0, v, by simp [lookL], by simp [Instr.findNow, hk, hv, Instr.sameNow], ⟨e, rfl, hk⟩, fun v => by simp [updL]⟩
    · have hs : Instr.sameNow (.int .i64) (.int .i64 k) e.key = some false := by rw [hk]; simp [Instr.sameNow, hka]
      rcases findNow_enc es m k (i + 1) ht with ⟨h1, h2, h3⟩ | ⟨j, u, h1, h2, h3, h4⟩
      · exact .inl ⟨by simp [lookL, hka, h1], by simp [Instr.findNow, hs, h2], fun v => by simp [updL, hka, h3]⟩
      · refine .inr ⟨j + 1, u, by simp [lookL, hka, h1], by simp [Instr.findNow, hs, h2]; omega, by simpa using h3, fun v => by simp [updL, hka, h4]⟩
section
variable {P : Program} {n : Nat} {k : List It} {Qf : Exit → Act → World → Prop} {ρ : Fr} {ds : List Deferred} {w : World} {ops : Array Oper} {rest : List Oper} {d : Option Nat} {ty : TypeId} {pos : String} {af : Array Edge}
theorem Rn.cast {o : Oper} {v v' : Value} (h : Rn P ρ o w v) (e : v = v') : Rn P ρ o w v' := e ▸ h
def NewM (w : World) (v : Value) (w' : World) : Prop := ∃ g, g = w.heap.size ∧ v = .map (some g) ∧ MpI w' g (fun _ => none) ∧ Ch [] w w'
theorem xmm {t : TypeId} : Ex P ρ ⟨d, .makeMap t none, ty, pos, af, none⟩ w (NewM w) := by
  refine ⟨rfl, .map (some w.heap.size), w.alloc (.map #[] 0), ?_, _, rfl, rfl, ⟨#[], 0, [], heap_alloc_new _ _, rfl, rfl⟩, ch_alloc _ _⟩
  simp [execOp, Instr.makeMap]
theorem Hold.newM {w0 w w' : World} {F0 : List Nat} {Γ : List Rs} {g : Nat} {f : Int → Option Int} (H : Hold w0 F0 w Γ) (e : g = w.heap.size) (h : MpI w' g f) (c : Ch [] w w') : Hold w0 F0 w' (Γ ++ [rM g f]) :=
  H.new (r := rM g f) ⟨rfl, h⟩ (by simp) (fun k hk => by rw [List.mem_singleton.1 hk, e]; exact Nat.le_refl _) c
theorem Hold.mp {w0 w : World} {F0 : List Nat} {Γ : List Rs} {g : Nat} {f : Int → Option Int} (H : Hold w0 F0 w Γ) (i : Nat) (hi : Γ[i]? = some (rM g f)) : MpI w g f := let ⟨_, h⟩ := H.res i hi; h.2
theorem Hold.setM {w0 w w' : World} {F0 : List Nat} {Γ Δ : List Rs} {g : Nat} {f f' : Int → Option Int} (H : Hold w0 F0 w Γ) (i : Nat) (hi : Γ[i]? = some (rM g f)) (h : MpI w' g f') (c : Ch [g] w w') (e : Γ.set i (rM g f') = Δ) : Hold w0 F0 w' Δ := by
  obtain ⟨F, hp, n, s, K⟩ := H.pick i hi
  obtain ⟨rfl, _⟩ := hp
  exact K w' (rM g f') [g] Δ ⟨rfl, h⟩ (Turn.own (by simp) (fun k hk => hk) c) e
theorem lkp {t kt et : TypeId} {x y : Operand} {g : Nat} {f : Int → Option Int} {a : Int} {by_ : Nat} (ht : P.underlying t = some (.map kt et)) (hk : P.underlying kt = some (.int .i64)) (hi : TI P et (.int .i64 0) 1 by_) (hx : ev ρ x = .map (some g)) (hy : ev ρ y = .int .i64 a) (hM : MpI w g f) :
    Rn P ρ ⟨d, .lookup t x y true, ty, pos, af, none⟩ w (.tuple #[.int .i64 ((f a).getD 0), .bool (f a).isSome]) := by
  refine ⟨rfl, fun w' c => ?_⟩
  obtain ⟨es, clock, m, hb, he, rfl⟩ := hM.t c
  obtain ⟨i0, hi0, hz, _, _⟩ := info_parts hi
  have hck : (Instr.checkKey es.isEmpty 10000 kt (.int .i64 a)).run P w' = .ok () w' := MapKept.run_checkKey (k := .int .i64 a) hk (by simp [MapKept.IsKey]) _ 9999
  rcases findNow_enc es.toList m a 0 he with ⟨h1, h2, _⟩ | ⟨j, v, h1, h2, _⟩
  · simp [execOp, Instr.lookup, hx, hy, run_underlying ht, MapKept.run_getObj_map hb, hck, MapKept.run_findKey hk h2, h1, zeroValue, typeInfo, hi0, hz, run_program]
  · simp [execOp, Instr.lookup, hx, hy, run_underlying ht, MapKept.run_getObj_map hb, hck, MapKept.run_findKey hk h2, h1]
theorem ch_setObj {w : World} {g : Nat} {o : Obj} : Ch [g] w { w with heap := w.heap.setIfInBounds g o } := by
  refine ⟨rfl, rfl, rfl, by simp, fun k hk hn => ?_⟩
  have hne : g ≠ k := fun e => hn (by simp [e])
  simp [Array.getElem?_setIfInBounds, hne]
theorem encM_set {es : Array MapEntry} {m : List (Int × Int)} (h : encM es.toList m) {j : Nat} {e : MapEntry} (hj : es[j]? = some e) {k v : Int} (F : MapEntry → MapEntry) (hF : ∀ e, (F e).key = .int .i64 k ∧ (F e).val = .int .i64 v) : encM (es.modify j F).toList (m.set j (k, v)) := by
  unfold encM at h ⊢
  rw [Array.toList_modify]
  apply List.ext_getElem?
  intro i
  have hi := congrArg (fun l => l[i]?) h
  simp only [List.getElem?_map] at hi
  simp only [List.getElem?_map, List.getElem?_modify, List.getElem?_set]
  by_cases hij : j = i
  · subst hij
    have hlt : j < es.size := (Array.getElem?_eq_some_iff.1 hj).1
    have hlm : j < m.length := by have := congrArg List.length h; simp at this; omega
    simp [hj, hlt, hlm, hF]
  · simp only [hij, if_false, id_map']
    simpa using hi
theorem xmu {t kt et : TypeId} {x y z : Operand} {g : Nat} {f : Int → Option Int} {a v : Int} (ht : P.underlying t = some (.map kt et)) (hk : P.underlying kt = some (.int .i64)) (hx : ev ρ x = .map (some g)) (hy : ev ρ y = .int .i64 a) (hz : ev ρ z = .int .i64 v) (hM : MpI w g f) :
    Ex0 P ρ ⟨d, .mapUpdate t x y z, ty, pos, af, none⟩ w (fun w' => MpI w' g (fset f a v) ∧ Ch [g] w w') := by
  obtain ⟨es, clock, m, hb, he, rfl⟩ := hM
  have hck : (Instr.checkKey false 10000 kt (.int .i64 a)).run P w = .ok () w := MapKept.run_checkKey (k := .int .i64 a) hk (by simp [MapKept.IsKey]) _ 9999
  have hlt : g < w.heap.size := (Array.getElem?_eq_some_iff.1 hb).1
  rcases findNow_enc es.toList m a 0 he with ⟨h1, h2, h3⟩ | ⟨j, u, h1, h2, ⟨e, h3, h3k⟩, h4⟩
  · refine ⟨rfl, { w with heap := w.heap.setIfInBounds g (.map (es.push { key := .int .i64 a, val := .int .i64 v, born := clock }) (clock + 1)) }, ?_, ⟨_, _, updL m a v, by simp [hlt]; exact ⟨rfl, rfl⟩, ?_, lookL_upd m a v⟩, ch_setObj⟩
    · simp [execOp, Instr.mapUpdate, hx, hy, hz, run_underlying ht, MapKept.run_getObj_map hb, hck, MapKept.run_findKey hk h2, MapKept.run_setObj_map _ hb]
    · rw [h3]; unfold encM at he ⊢; simp [he]
  · have h3' : es[j]? = some e := by simpa using h3
    have hkt : (Instr.keyThatStays (((es[0 + j]?).map (·.key)).getD (.int .i64 a)) (.int .i64 a)).run P w = .ok (.int .i64 a) w := by
      simp [h3', h3k, Instr.keyThatStays, Instr.sameBits]
    refine ⟨rfl, { w with heap := w.heap.setIfInBounds g (.map (es.modify (0 + j) fun e => { e with key := .int .i64 a, val := .int .i64 v }) clock) }, ?_, ⟨_, _, updL m a v, by simp [hlt]; exact ⟨rfl, rfl⟩, ?_, lookL_upd m a v⟩, ch_setObj⟩
    · simp only [execOp, Instr.mapUpdate, hx, hy, hz, Sem.run_bind, run_underlying ht, Result.andThen_ok, MapKept.run_getObj_map hb, hck, MapKept.run_findKey hk h2, hkt, MapKept.run_setObj_map _ hb]
      simp
    · rw [h4]; exact encM_set he h3' _ (fun e => ⟨rfl, rfl⟩)
theorem xcl {t kt et : TypeId} {x : Operand} {g : Nat} {f : Int → Option Int} (ht : P.underlying t = some (.map kt et)) (hx : ev ρ x = .map (some g)) (hM : MpI w g f) :
    Ex P ρ ⟨d, .call ⟨.builtin .clear, #[x], #[t]⟩, ty, pos, af, none⟩ w (fun v w' => MpI w' g (fun _ => none) ∧ Ch [g] w w') := by
  obtain ⟨es, clock, m, hb, he, rfl⟩ := hM
  have hlt : g < w.heap.size := (Array.getElem?_eq_some_iff.1 hb).1
  refine ⟨rfl, .tuple #[], { w with heap := w.heap.setIfInBounds g (.map #[] clock) }, ?_, ⟨#[], clock, [], by simp [hlt], rfl, rfl⟩, ch_setObj⟩
  simp [execOp, resolve, invoke, builtin, hx, Builtin.clear_, run_underlying ht, MapKept.run_getObj_map hb, MapKept.run_setObj_map _ hb]
theorem splice_take {α : Type} {c Y : List α} {o n : Nat} (h : o + Y.length ≤ n) (hc : n ≤ c.length) : (c.take o ++ Y ++ c.drop (o + Y.length)).take n = (c.take n).take o ++ Y ++ (c.take n).drop (o + Y.length) := by
  rw [List.take_append, List.take_of_length_le (by simp; omega), List.take_take, List.drop_take]
  congr 2
  · congr 2; omega
  · simp; omega
/-- 'copy(row[l:h], src)' into a row of one's own. -/
theorem cpw {tt st e e' : TypeId} {z : Value} {by_ : Nat} {x y : Operand} {F G : List Nat} {v sv : Value} {xs ys : List Int} (l h : Nat) (ht : P.underlying tt = some (.slice e')) (hi : TI P e' z 1 by_) (hx : ev ρ x = slv v l h 1) (hy : ev ρ y = sv) (hW : (Kd.int .u8).W e w F v xs) (hl : l ≤ h ∧ h ≤ xs.length ∧ 0 < xs.length) (hR : (Kd.int .u8).R w G sv ys) :
    Ex P ρ ⟨d, .call ⟨.builtin .copy, #[x, y], #[tt, st]⟩, ty, pos, af, none⟩ w (fun r w' => ∃ F', Mut (Kd.int .u8) e w w' F F' v (xs.take l ++ ys.take (h - l) ++ xs.drop (l + (ys.take (h - l)).length))) := by
  have hW0 := hW
  obtain ⟨Fs, cs, ho, rfl, he⟩ := hW
  have hcs := els_int_inv (w := w) he
  obtain ⟨h1, h2⟩ := ho
  rcases h2 with ⟨rfl, hn0⟩ | ⟨g, cap, cur, rfl, hg, hh, hnc, hcm, hcz, htake⟩
  · exact absurd hn0 (by omega)
  have hB : B w g e cur.toList := by simpa [B] using hh
  have hcz' : cur.toList.length = cap := by have := hcz; simp [Kd.int, Kd.one1, Kd.flat] at this; simpa using this
  obtain ⟨w', r1, r2, r3, r4⟩ := run_copy_into (P := P) (ty := ty) (st := st) (dl := h - l) (dc := cap - l) (o := if cap = l then 0 else l) ht hi hB (run_lenR hR) (fun m hm => run_firstR hR m hm) (by rw [hcz']; split <;> omega)
  have hx' : ev ρ x = .slice (some ⟨g, if cap = l then 0 else l, none⟩) (h - l) (cap - l) := by
    rw [hx]; simp only [slv]; by_cases ec : cap = l <;> simp [ec, add_mk]
  have eY : ys.take (min ys.length (h - l)) = ys.take (h - l) := by rw [Nat.min_comm, ← List.take_eq_take_min]
  rw [eY] at r3
  refine ⟨rfl, _, w', run_copyop hx' hy r1, [g], ?_, by simp, fun k hk => .inl (by simp [Value.ownBlock]; exact .inl (by simpa using hk)), r4.mono (fun k hk _ => by simp [Value.ownBlock]; exact .inl (by simpa using hk))⟩
  have hYl : (ys.take (h - l)).length ≤ h - l := by simp; omega
  generalize ys.take (h - l) = Y at *
  have hlen : (xs.take l ++ Y ++ xs.drop (l + Y.length)).length = xs.length := by simp; omega
  have hsp : (splice cur.toList (if cap = l then 0 else l) (byts Y)).take xs.length = byts (xs.take l ++ Y ++ xs.drop (l + Y.length)) := by
    have hcs' : cur.toList.take xs.length = byts xs := by have := htake; simp [Kd.int, Kd.one1, Kd.flat] at this; rw [this, hcs]
    by_cases ec : cap = l
    · have hY : Y = [] := List.eq_nil_of_length_eq_zero (by omega)
      subst hY
      simp [splice, byts] at hcs' ⊢
      rw [hcs']
    · rw [if_neg ec, ← splice_byts, ← hcs']
      have := splice_take (c := cur.toList) (Y := byts Y) (o := l) (n := xs.length) (by simp [byts]; omega) (by omega)
      simpa [splice, List.append_assoc] using this
  refine ⟨[], byts (xs.take l ++ Y ++ xs.drop (l + Y.length)), ?_, by simp [Value.ownBlock], els_int _⟩
  refine ⟨by simp [byts, Kd.int, Kd.one1, Kd.flat], .inr ⟨g, cap, (splice cur.toList (if cap = l then 0 else l) (byts Y)).toArray, by rw [hlen], Nat.zero_le _, r3, by rw [hlen]; exact hnc, hcm, ?_, ?_⟩⟩
  · have : (splice cur.toList (if cap = l then 0 else l) (byts Y)).length = cap := by simp only [splice, byts, List.length_append, List.length_take, List.length_map, List.length_drop, hcz']; split <;> omega
    simpa [Kd.int, Kd.one1, Kd.flat] using this
  · rw [hlen]; simpa [Kd.int, Kd.one1, Kd.flat] using hsp
theorem run_eqIn_sl {t e : TypeId} {A : Option Addr} {l c : Nat} (ht : P.underlying t = some (.slice e)) (m : Nat) (w : World) : (Op.equalIn (m + 1) t (.slice A l c) (.slice none 0 0)).run P w = .ok A.isNone w := by
  cases A <;> simp only [Op.equalIn, Sem.run_bind, run_underlying ht, Result.andThen_ok, Sem.run_pure, Option.isNone]
/-- A slice held against nil. -/
theorem snl {t u e : TypeId} {x : Operand} {A : Option Addr} {l c : Nat} (ht : P.underlying t = some (.slice e)) (hx : ev ρ x = .slice A l c) : Rn P ρ ⟨d, .binOp .eql t x (.const (.slice none 0 0)) u, ty, pos, af, none⟩ w (.bool A.isNone) := by
  refine ⟨rfl, fun w' _ => ?_⟩
  have h1 : (Op.equal t (.slice A l c) (.slice none 0 0)).run P w' = .ok A.isNone w' := run_eqIn_sl ht 9999 w'
  have h2 : (eqGuard .eql t x (.const (.slice none 0 0)) (.slice A l c) (.slice none 0 0)).run P w' = .ok () w' := by simp [eqGuard]
  have h3 : binOp .eql t (.slice A l c) (.slice none 0 0) = (do pure (.bool (← Op.equal t (.slice A l c) (.slice none 0 0)))) := rfl
  simp only [execOp, hx, show ev ρ (.const (.slice none 0 0)) = .slice none 0 0 from rfl, Sem.run_bind, h2, Result.andThen_ok, h3, h1, Sem.run_pure]
end
end Go.Eng

namespace Go.Proofs.YtanfhikfeabidaaGreatDoor
open Go Go.Eng
set_option maxRecDepth 100000
set_option maxHeartbeats 4000000
set_option linter.unusedVariables false
set_option linter.unusedSimpArgs false
abbrev Wr := Int × List Int
/-- Where the youngest write to each block stands. -/
def yngS (s : (Int → Option Int) × Int) (x : Wr) : (Int → Option Int) × Int := (fset s.1 x.1 s.2, s.2 + 1)
def yngP (ps : List Wr) : (Int → Option Int) × Int := ps.foldl yngS (fun _ => none, 0)
def yng (ps : List Wr) : Int → Option Int := (yngP ps).1
theorem yngP_2 (ps : List Wr) : (yngP ps).2 = ps.length := by
  have : ∀ (ps : List Wr) (s : (Int → Option Int) × Int), (ps.foldl yngS s).2 = s.2 + ps.length := by
    intro ps
    induction ps with
    | nil => intro s; simp
    | cons x ps ih => intro s; rw [List.foldl_cons, ih]; simp only [yngS, List.length_cons]; omega
  rw [yngP, this]; simp
theorem yng_nil : yng [] = fun _ => none := rfl
theorem yng_app (ps : List Wr) (x : Wr) : yng (ps ++ [x]) = fset (yng ps) x.1 ps.length := by
  simp only [yng, yngP, List.foldl_append, List.foldl_cons, List.foldl_nil]
  show fset (yngP ps).1 x.1 (yngP ps).2 = _
  rw [yngP_2]; rfl
/-- A block as it is read: the last write to it, or the bytes below. -/
def readS (b : Int) (acc : List Int) (x : Wr) : List Int := if x.1 = b then x.2 else acc
def readD (xs : List Int) (ps : List Wr) (b : Int) : List Int := ps.foldl (readS b) ((xs.take (b.toNat * 64 + 64)).drop (b.toNat * 64))
theorem readD_app (xs : List Int) (ps : List Wr) (x : Wr) (b : Int) : readD xs (ps ++ [x]) b = if x.1 = b then x.2 else readD xs ps b := by
  simp [readD, List.foldl_append, readS]
theorem rev_ind {p : List Wr → Prop} (h0 : p []) (h1 : ∀ ps x, p ps → p (ps ++ [x])) (ps : List Wr) : p ps := by
  have : ∀ n, ∀ ps : List Wr, ps.length = n → p ps := by
    intro n
    induction n with
    | zero => intro ps h; rw [List.eq_nil_of_length_eq_zero h]; exact h0
    | succ n ih =>
      intro ps h
      have hne : ps ≠ [] := fun e => by simp [e] at h
      rw [← List.dropLast_concat_getLast hne]
      exact h1 _ _ (ih _ (by simp; omega))
  exact this _ ps rfl
theorem yng_read (xs : List Int) (b : Int) (ps : List Wr) : (yng ps b = none → readD xs ps b = (xs.take (b.toNat * 64 + 64)).drop (b.toNat * 64)) ∧ ∀ k, yng ps b = some k → ∃ (i : Nat) (hi : i < ps.length), k = i ∧ ps[i].1 = b ∧ readD xs ps b = ps[i].2 := by
  induction ps using rev_ind with
  | h0 => exact ⟨fun _ => rfl, fun k h => by simp [yng_nil] at h⟩
  | h1 ps x ih =>
    rw [yng_app, readD_app]
    simp only [fset]
    by_cases hx : b = x.1
    · subst hx
      simp only [if_true]
      refine ⟨fun h => by simp at h, fun k h => ⟨ps.length, by simp, by simpa using h.symm, by simp, by simp⟩⟩
    · have hx' : ¬ x.1 = b := fun e => hx e.symm
      simp only [hx, hx', if_false]
      refine ⟨ih.1, fun k h => ?_⟩
      obtain ⟨i, hi, h1, h2, h3⟩ := ih.2 k h
      exact ⟨i, by simp; omega, h1, by rw [List.getElem_append_left hi]; exact h2, by rw [List.getElem_append_left hi]; exact h3⟩
theorem clone {w : World} {F : List Nat} {v : Value} {xs : List Int} (hx : u8.R w F v xs) (lx : xs.length ≤ 1000000000) : Ret Tryz.prog 35 #[v] w (fun r w' => Hold w [] w' [rR u8 5 r xs]) := by
  obtain ⟨A, c, rfl, hc⟩ := hx.cap
  refine enter Tryz.func35 rfl Tryz.ntmps35 (by rfl) (by rfl) ?_
  have H0 : Hold w [] w [] := Hold.start w
  refine sq (rg (r (sa rfl) (re (sq (sq (rg (r (mv rfl) (r (snl Tryz.underlying22 rfl) (re ?_)))))))))
  refine cd rfl (fun hA => ?_) (fun hA => ?_)
  · obtain rfl : A = none := by simpa using hA
    obtain rfl : xs = [] := by
      by_cases hz : 0 < xs.length
      · obtain ⟨_, _, e⟩ := Kd.R.adr hx hz; cases e
      · exact List.eq_nil_of_length_eq_zero (by omega)
    have H1 : Hold w [] w [rR u8 5 (.slice none 0 0) ([])] := Hold.nilrow u8 5 H0
    clear H0
    refine sq (rg (r (sa rfl) (re (rt ?_))))
    exact fin1 (v := .slice none 0 0) Tryz.results35 rfl H1
  · refine sk (sq (rg (ef (xbs0 (dk := u8) Tryz.underlying22 ti5) ?_)))
    rintro v1 w1 N1
    have H1 : Hold w [] w1 [rR u8 5 v1 ([])] := Hold.newr H0 N1
    clear H0
    obtain ⟨F3, P3, n3, s3, K3⟩ := Hold.pick H1 0 rfl
    replace P3 : Kd.W u8 5 w1 F3 v1 ([]) := P3
    refine r (mv rfl) (ef (aps Tryz.underlying22 ti5 rfl (flat_int _) rfl rfl P3 ((hx.t (Hold.ch H1))) n3 (by simp; omega)) ?_)
    rintro v7_2 w2 ⟨F2, A2⟩
    have H2 : Hold w [] w2 [rR u8 5 v7_2 ([] ++ xs)] := Hold.apd K3 P3 A2 rfl
    clear H1
    clear A2 K3 P3 n3 s3
    refine r (sa rfl) (re (rt ?_))
    have H3 : Hold w [] w2 [rR u8 5 v7_2 xs] := (by simpa using H2)
    clear H2
    exact fin1 (v := v7_2) Tryz.results35 rfl H3
theorem place {w : World} {F : List Nat} {g : Nat} {dv wv mq : Value} {xs : List Int} {b : Int} (hB : B w g 98 [dv, wv, mq]) (hx : u8.R w F dv xs) (lx : xs.length ≤ 1000000000) (hb : 0 ≤ b ∧ b.toNat * 64 + 64 ≤ xs.length) : Ret Tryz.prog 62 #[.pointer (some ⟨g, 0, none⟩), .int .i64 b] w (fun r w' => r = slv dv (b.toNat * 64) (b.toNat * 64 + 64) 1 ∧ Ch [] w w') := by
  refine enter Tryz.func62 rfl Tryz.ntmps62 (by rfl) (by rfl) ?_
  have H0 : Hold w [] w [] := Hold.start w
  refine sq (rg (r (sa rfl) (re (sq (rg (r (mv rfl) (r (nck rfl) (r (fa Tryz.underlying98 rfl ti22 rfl rfl) (r (ldb Tryz.underlying22 rfl rfl ((Hold.ch H0).b0 hB) rfl) (r (mv rfl) (r (ml (a := b) (b := 64) (((b.toNat * 64 : Nat) : Int)) rfl rfl (by omega)) (r (mv rfl) (r (ad (a := b) (b := 1) (b + 1) rfl rfl (by omega)) (r (ml (a := b + 1) (b := 64) (((b.toNat * 64 + 64 : Nat) : Int)) rfl rfl (by omega)) (r (slr (b.toNat * 64) (b.toNat * 64 + 64) Tryz.underlying22 ti5 (hx.t (Hold.ch H0)) rfl rfl rfl (by omega)) (r (sa rfl) (re (rt ?_))))))))))))))))))
  exact fin1 (v := slv dv (b.toNat * 64) (b.toNat * 64 + 64) 1) Tryz.results62 rfl ⟨rfl, Hold.ch H0⟩
theorem platter_read {w : World} {F G : List Nat} {g mg : Nat} {dv wv : Value} {xs : List Int} {ps : List Wr} {b : Int} (hB : B w g 98 [dv, wv, .map (some mg)]) (hM : MpI w mg (yng ps)) (hx : u8.R w F dv xs) (hp : kW.R w G wv ps) (lx : xs.length ≤ 1000000000) (hb : 0 ≤ b ∧ b.toNat * 64 + 64 ≤ xs.length) (ok : ∀ x, x ∈ ps → x.2.length = 64) :
    Ret Tryz.prog 39 #[.pointer (some ⟨g, 0, none⟩), .int .i64 b] w (fun r w' => r = .agg (byts (readD xs ps b)).toArray ∧ Ch [] w w') := by
  have hY := yng_read xs b ps
  refine enter Tryz.func39 rfl Tryz.ntmps39 (by rfl) (by rfl) ?_
  have H0 : Hold w [] w [] := Hold.start w
  rcases hy : yng ps b with _ | k
  · have e1 := hY.1 hy
    rw [e1]
    have l1 : ((xs.take (b.toNat * 64 + 64)).drop (b.toNat * 64)).length = 64 := by simp; omega
    refine sq (rg (ef (xal ti71) ?_))
    rintro _ w1 ⟨g4, e1, rfl, -, b1, c1⟩
    have H1 : Hold w [] w1 [rB g4 71 (byts (List.replicate 64 0))] := Hold.newB H0 e1 b1 c1
    clear H0
    clear e1 b1 c1
    refine re (sq (sq (rg (r (mv rfl) (r (nck rfl) (r (fa Tryz.underlying98 rfl ti96 rfl rfl) (r (ldb Tryz.underlying96 rfl rfl ((Hold.ch H1).b0 hB) rfl) (r (mv rfl) (r (Rn.cast (v' := .tuple #[.int .i64 0, .bool false]) (lkp Tryz.underlying96 Tryz.underlying2 ti3 rfl rfl (MpI.t (Hold.ch H1) hM)) (by simp [hy])) (r (mv rfl) (r (xt rfl rfl) (r (xt rfl rfl) (r (sa rfl) (r (sa rfl) (re (sq ?_))))))))))))))))
    refine gen (fun ρ => ρ 0 = .pointer (some ⟨g, 0, none⟩) ∧ ρ 1 = .int .i64 b ∧ ρ 4 = .pointer (some ⟨g4, 0, none⟩) ∧ ρ 5 = .int .i64 0 ∧ ρ 6 = .bool false ∧ True) ⟨rfl, rfl, rfl, rfl, rfl, trivial⟩ ?_
    rintro ρ ⟨z0, z1, z4, z5, z6, -⟩
    refine rg (r (mv z6) (re (cf rfl (sk (sq (rg (r (mv z0) (r (mv z1) (cl go62 (place ((Hold.ch H1).b0 hB) (hx.t (Hold.ch H1)) lx hb) (ac rfl (ac rfl an)) ?_)))))))))
    rintro r wp ⟨rfl, cp⟩
    have H2 : Hold w [] wp [rB g4 71 (byts (List.replicate 64 0))] := Hold.t H1 cp
    clear H1
    clear cp
    obtain ⟨F3, us3, R3⟩ := Kd.R.sl (hx.t (Hold.ch H2)) (b.toNat * 64) (b.toNat * 64 + 64) (by first | omega | (simp; omega)) (by first | omega | (simp; omega))
    have e3 : (xs.take (b.toNat * 64 + 64)).drop (b.toNat * 64) = (xs.take (b.toNat * 64 + 64)).drop (b.toNat * 64) := by first | (rw [List.take_length, List.drop_drop]; done) | (rw [List.drop_take]; done) | (simp; done) | (rw [List.drop_take]; congr 1; omega) | (rw [List.take_length, List.drop_drop]; congr 1; omega)
    rw [e3] at R3
    obtain ⟨F5, us5, R5⟩ := Kd.R.sl (hx.t (Hold.ch H2)) (b.toNat * 64) (b.toNat * 64 + 64) (by first | omega | (simp; omega)) (by first | omega | (simp; omega))
    have e5 : (xs.take (b.toNat * 64 + 64)).drop (b.toNat * 64) = (xs.take (b.toNat * 64 + 64)).drop (b.toNat * 64) := by first | (rw [List.take_length, List.drop_drop]; done) | (rw [List.drop_take]; done) | (simp; done) | (rw [List.drop_take]; congr 1; omega) | (rw [List.take_length, List.drop_drop]; congr 1; omega)
    rw [e5] at R5
    obtain ⟨ad4, c4, e4⟩ := Kd.R.adr R5 (by omega)
    obtain ⟨F6, us6, R6⟩ := Kd.R.sl (hx.t (Hold.ch H2)) (b.toNat * 64) (b.toNat * 64 + 64) (by first | omega | (simp; omega)) (by first | omega | (simp; omega))
    have e6 : (xs.take (b.toNat * 64 + 64)).drop (b.toNat * 64) = (xs.take (b.toNat * 64 + 64)).drop (b.toNat * 64) := by first | (rw [List.take_length, List.drop_drop]; done) | (rw [List.drop_take]; done) | (simp; done) | (rw [List.drop_take]; congr 1; omega) | (rw [List.take_length, List.drop_drop]; congr 1; omega)
    rw [e6] at R6
    have b7 : B wp g4 71 (byts (List.replicate 64 0)) := Hold.blk H2 0 rfl
    refine r (s2a Tryz.underlying71 (e4) (by omega)) (r (lar Tryz.underlying71 ti71 e4 R6 (by omega) rfl) (ef0 (xsta ti71 z4 rfl (by simp; omega) b7 (by simp)) ?_))
    rintro w8 ⟨-, b8, c8⟩
    have H3 : Hold w [] w8 [rB g4 71 (byts (((xs.take (b.toNat * 64 + 64)).drop (b.toNat * 64)).take 64))] := Hold.setB H2 0 rfl b8 c8 rfl
    clear H2
    clear b8 c8
    refine re (rt ?_)
    have b9 : B w8 g4 71 (byts (((xs.take (b.toNat * 64 + 64)).drop (b.toNat * 64)).take 64)) := Hold.blk H3 0 rfl
    exact finc  (cs := byts (((xs.take (b.toNat * 64 + 64)).drop (b.toNat * 64)).take 64)) Tryz.results39 Tryz.underlying71 rfl ti71 z4 b9 (by first | (simp [byts]; done) | (simp [byts]; omega))  ⟨by rw [List.take_of_length_le (by omega)], Hold.ch H3⟩
  · obtain ⟨i, hi, rfl, hb1, hb2⟩ := hY.2 k hy
    rw [hb2]
    have hl := ok _ (List.getElem_mem hi)
    refine sq (rg (ef (xal ti71) ?_))
    rintro _ w1 ⟨g4, e1, rfl, -, b1, c1⟩
    have H1 : Hold w [] w1 [rB g4 71 (byts (List.replicate 64 0))] := Hold.newB H0 e1 b1 c1
    clear H0
    clear e1 b1 c1
    refine re (sq (sq (rg (r (mv rfl) (r (nck rfl) (r (fa Tryz.underlying98 rfl ti96 rfl rfl) (r (ldb Tryz.underlying96 rfl rfl ((Hold.ch H1).b0 hB) rfl) (r (mv rfl) (r (Rn.cast (v' := .tuple #[.int .i64 (i : Int), .bool true]) (lkp Tryz.underlying96 Tryz.underlying2 ti3 rfl rfl (MpI.t (Hold.ch H1) hM)) (by simp [hy])) (r (mv rfl) (r (xt rfl rfl) (r (xt rfl rfl) (r (sa rfl) (r (sa rfl) (re (sq ?_))))))))))))))))
    refine gen (fun ρ => ρ 0 = .pointer (some ⟨g, 0, none⟩) ∧ ρ 1 = .int .i64 b ∧ ρ 4 = .pointer (some ⟨g4, 0, none⟩) ∧ ρ 5 = .int .i64 (i : Int) ∧ ρ 6 = .bool true ∧ True) ⟨rfl, rfl, rfl, rfl, rfl, trivial⟩ ?_
    rintro ρ ⟨z0, z1, z4, z5, z6, -⟩
    refine rg (r (mv z6) (re (ct rfl (sq (rg (r (mv z0) (r (nck rfl) (r (fa Tryz.underlying98 rfl ti31 rfl rfl) (r (ldb Tryz.underlying31 rfl rfl ((Hold.ch H1).b0 hB) rfl) (r (mv z5) ?_))))))))))
    obtain ⟨c22_2, ad22_2, k22_2, e22_2, p22_2⟩ := Kd.R.place hp i (hi)
    obtain ⟨vd22_2, Fd22_2, Rd22_2, sd22_2, q22_2⟩ := wr_at p22_2
    obtain ⟨ad3, c3, e3⟩ := Kd.R.adr (Rd22_2.t (Hold.ch H1)) (by omega)
    have b4 : B w1 g4 71 (byts (List.replicate 64 0)) := Hold.blk H1 0 rfl
    refine r (ix (j := i) Tryz.underlying31 ti100 e22_2 rfl (hi)) (r (fa' Tryz.underlying100 rfl ti22 rfl rfl) (r (ld Tryz.underlying22 rfl rfl (Ch.cell (Hold.ch H1) (q22_2 1 _ rfl))) (r (s2a Tryz.underlying71 (e3) (by omega)) (r (lar Tryz.underlying71 ti71 e3 (Rd22_2.t (Hold.ch H1)) (by omega) rfl) (ef0 (xsta ti71 z4 rfl (by simp; omega) b4 (by simp)) ?_)))))
    rintro w5 ⟨-, b5, c5⟩
    have H2 : Hold w [] w5 [rB g4 71 (byts (((ps[i]).2).take 64))] := Hold.setB H1 0 rfl b5 c5 rfl
    clear H1
    clear b5 c5
    refine re (rt ?_)
    have b6 : B w5 g4 71 (byts (((ps[i]).2).take 64)) := Hold.blk H2 0 rfl
    exact finc  (cs := byts (((ps[i]).2).take 64)) Tryz.results39 Tryz.underlying71 rfl ti71 z4 b6 (by first | (simp [byts]; done) | (simp [byts]; omega))  ⟨by rw [List.take_of_length_le (by omega)], Hold.ch H2⟩
theorem platter_write {w : World} {F G : List Nat} {g mg : Nat} {dv wv sv : Value} {xs ys : List Int} {ps : List Wr} {b : Int} (h : Hs w [rB g 98 [dv, wv, .map (some mg)], rR u8 5 dv xs, rR kW 100 wv ps, rM mg (yng ps)] F) (nd : F.Nodup) (hy : u8.R w G sv ys) (hd : ∀ k, k ∈ G → k ∉ F) (ly : ys.length ≤ 1000000000) (hlp : ps.length ≤ 2000000) :
    Ret Tryz.prog 19 #[.pointer (some ⟨g, 0, none⟩), .int .i64 b, sv] w (fun r w' => ∃ wv', Hold w F w' [rB g 98 [dv, wv', .map (some mg)], rR u8 5 dv xs, rR kW 100 wv' (ps ++ [(b, ys)]), rM mg (yng (ps ++ [(b, ys)]))]) := by
  refine enter Tryz.func19 rfl Tryz.ntmps19 (by rfl) (by rfl) ?_
  have H0 : Hold w F w [rB g 98 ([dv, wv, .map (some mg)]), rR u8 5 dv xs, rR kW 100 wv ps, rM mg (yng ps)] := Hold.begin h nd
  refine sq ?_
  refine rde mixed ?_
  intro w1 c1
  have H1 : Hold w F w1 [rB g 98 ([dv, wv, .map (some mg)]), rR u8 5 dv xs, rR kW 100 wv ps, rM mg (yng ps)] := Hold.t H0 c1
  clear H0
  clear c1
  have H2d0 : Hold w1 [] w1 [] := Hold.start w1
  refine ⟨fun w' => Ch [] w1 w', Ch.refl _ _, ?_⟩
  have b3 : B w1 g 98 ([dv, wv, .map (some mg)]) := Hold.blk H1 0 rfl
  obtain ⟨_, R4⟩ : ∃ F, Kd.R kW w1 F wv ps := Hold.row H1 2 rfl
  have H2 : Hold w F w1 [rB g 98 ([dv, wv, .map (some mg)]), rR u8 5 dv xs, rR kW 100 wv ps, rM mg (yng ps)] := Hold.news H1 H2d0
  clear H2d0 H1
  have b5 : MpI w1 mg (yng ps) := Hold.mp H2 3 rfl
  refine edt 0 rfl (by kernel_rfl) (fun w' hS => mv rfl) (edt 1 rfl (by kernel_rfl) (fun w' hS => nck rfl) (edt 2 rfl (by kernel_rfl) (fun w' hS => fa Tryz.underlying98 rfl ti96 rfl rfl) (edt 3 rfl (by kernel_rfl) (fun w' hS => ldb Tryz.underlying96 rfl rfl (hS.b0 b3) rfl) (edt 4 rfl (by kernel_rfl) (fun w' hS => mv rfl) (edt 5 rfl (by kernel_rfl) (fun w' hS => mv rfl) (edt 6 rfl (by kernel_rfl) (fun w' hS => nck rfl) (edt 7 rfl (by kernel_rfl) (fun w' hS => fa Tryz.underlying98 rfl ti31 rfl rfl) (edt 8 rfl (by kernel_rfl) (fun w' hS => ldb Tryz.underlying31 rfl rfl (hS.b0 b3) rfl) (edt 9 rfl (by kernel_rfl) (fun w' hS => ln Tryz.underlying31 rfl ((R4.t hS))) (ed1 10 (by kernel_rfl) <| euf0 rfl (xmu Tryz.underlying96 Tryz.underlying2 rfl rfl rfl b5) ?_))))))))))
  rintro w6 ⟨b6, c6⟩
  have H3 : Hold w F w6 [rB g 98 ([dv, wv, .map (some mg)]), rR u8 5 dv xs, rR kW 100 wv ps, rM mg (fset (yng ps) b (ps.length : Int))] := Hold.setM H2 3 rfl b6 c6 rfl
  clear H2
  clear b6 c6
  refine ⟨.inl (by kernel_rfl), ?_⟩
  refine edd (by kernel_rfl) ?_
  refine gen (fun ρ => ρ 0 = .pointer (some ⟨g, 0, none⟩) ∧ ρ 1 = .int .i64 b ∧ ρ 2 = sv ∧ True) ⟨rfl, rfl, rfl, trivial⟩ ?_
  rintro ρ ⟨z0, z1, z2, -⟩
  refine rde mixed ?_
  intro w7 c7
  have H4 : Hold w F w7 [rB g 98 ([dv, wv, .map (some mg)]), rR u8 5 dv xs, rR kW 100 wv ps, rM mg (fset (yng ps) b (ps.length : Int))] := Hold.t H3 c7
  clear H3
  clear c7
  have H5 : Hold w F w7 [rR kW 100 wv ps, rB g 98 ([dv, wv, .map (some mg)]), rR u8 5 dv xs, rM mg (fset (yng ps) b (ps.length : Int))] := Hold.re H4 [2, 0, 1, 3] (by kernel_rfl) (by rfl)
  clear H4
  obtain ⟨Fd8, hFd8, nd8, Kd8, Xd8, sd8⟩ := Hold.frontx (Γ := [rR kW 100 wv ps]) (Δ := [rB g 98 ([dv, wv, .map (some mg)]), rR u8 5 dv xs, rM mg (fset (yng ps) b (ps.length : Int))]) H5
  have H8d0 : Hold w7 Fd8 w7 [rR kW 100 wv ps] := Hold.begin hFd8 nd8
  refine ⟨fun w' => Ch Fd8 w7 w', Ch.refl _ _, ?_⟩
  obtain ⟨_, ⟨rfl, b9⟩, x9⟩ := Xd8 0 (rB g 98 ([dv, wv, .map (some mg)])) rfl
  refine edt 0 rfl (by kernel_rfl) (fun w' hS => mv z0) (edt 1 rfl (by kernel_rfl) (fun w' hS => mv z0) (edt 2 rfl (by kernel_rfl) (fun w' hS => nck rfl) (edt 3 rfl (by kernel_rfl) (fun w' hS => fa Tryz.underlying98 rfl ti31 rfl rfl) (edt 4 rfl (by kernel_rfl) (fun w' hS => ldb Tryz.underlying31 rfl rfl (hS.b b9 (x9 _ (by simp))) rfl) (edt 5 rfl (by kernel_rfl) (fun w' hS => mv z1) (edt 6 rfl (by kernel_rfl) (fun w' hS => mv z2) (ed1 7 (by kernel_rfl) <| euc rfl go35 (ac rfl an) (clone ((hy.tt (Hold.ch H5) hd).tt (Hold.ch H8d0) (dis_of hy.lt hd sd8)) ly) ?_)))))))
  rintro r3 wc Hc
  have H6d : Hold w7 Fd8 wc [rR kW 100 wv ps, rR u8 5 r3 ys] := Hold.news H8d0 Hc
  clear H8d0
  clear Hc
  refine ⟨.inr (Hold.ch H6d), ?_⟩
  obtain ⟨_, R11⟩ : ∃ F, Kd.R u8 wc F r3 ys := Hold.row H6d 1 rfl
  refine ed1 8 (by kernel_rfl) <| eur rfl (bd (r := [.int .i64 b, r3]) ti100 pl100 (pc rfl (cel1 rfl) (pc rfl (cel1 (R11).oneCell) pn)) rfl) (.inr (Hold.ch H6d)) ?_
  refine ed1 9 (by kernel_rfl) <| euf rfl (xbs1 (cs := [.int .i64 b, r3]) Tryz.underlying31 ti100 rfl rfl rfl rfl rfl) ?_
  rintro _ w12 ⟨g25, e12, rfl, -, b12, c12⟩
  have H7d : Hold w7 Fd8 w12 [rR kW 100 wv ps, rR u8 5 r3 ys, rB g25 100 ([.int .i64 b, r3])] := Hold.newB H6d e12 b12 c12
  clear H6d
  clear e12 b12 c12
  refine ⟨.inr (Hold.ch H7d), ?_⟩
  have b14 : B w12 g25 100 ([.int .i64 b, r3]) := Hold.blk H7d 2 rfl
  obtain ⟨F15, hF15, n15, s15, K15⟩ := Hold.front (Γ := [rR kW 100 wv ps, rR u8 5 r3 ys]) (Δ := [rB g25 100 ([.int .i64 b, r3])]) H7d
  obtain ⟨Fa15, _, rfl, Wa15, Fb15, _, rfl, Wb15, rfl⟩ := hF15
  replace Wa15 : Kd.W kW 100 w12 Fa15 wv ps := Wa15
  replace Wb15 : Kd.W u8 5 w12 Fb15 r3 ys := Wb15
  refine ed1 10 (by kernel_rfl) <| euf rfl (xapb (ys := [(b, ys)]) (G := Fb15) Tryz.underlying31 ti100 rfl rfl rfl Wa15 b14 (els_one (R := Kd.O kW _) (show Kd.O kW _ _ (b, ys) _ from ⟨[], _, [_], [_], rfl, rfl, ⟨rfl, rfl⟩, _, rfl, Wb15⟩)) (by simpa using n15) (by simp; omega)) ?_
  rintro v26_13 w13 ⟨F13, A13⟩
  have H8d : Hold w7 Fd8 w13 [rR kW 100 v26_13 (ps ++ [(b, ys)]), rB g25 100 ([.int .i64 b, r3])] := Hold.apd2 K15 (by simp) Wa15 A13
  clear H7d
  refine ⟨.inr (Hold.ch H8d), ?_⟩
  have H9 : Hold w F w13 [rR kW 100 v26_13 (ps ++ [(b, ys)]), rB g25 100 ([.int .i64 b, r3]), rB g 98 ([dv, wv, .map (some mg)]), rR u8 5 dv xs, rM mg (fset (yng ps) b (ps.length : Int))] := Hold.call Kd8 H8d
  clear H8d H5
  have b16 : B w13 g 98 ([dv, wv, .map (some mg)]) := Hold.blk H9 2 rfl
  obtain ⟨_, R18⟩ : ∃ F, Kd.R kW w13 F v26_13 (ps ++ [(b, ys)]) := Hold.row H9 0 rfl
  refine edt 11 rfl (by kernel_rfl) (fun w' hS => nck rfl) (edt 12 rfl (by kernel_rfl) (fun w' hS => fa Tryz.underlying98 rfl ti31 rfl rfl) (ed1 13 (by kernel_rfl) <| euf0 rfl (xst (vs := [v26_13]) ti31 rfl rfl (cel1 (R18).oneCell) b16 rfl (Nat.le_of_ble_eq_true rfl) (ones1 (R18).oneCell)) ?_))
  rintro w17 ⟨-, b17, c17⟩
  have H10 : Hold w F w17 [rR kW 100 v26_13 (ps ++ [(b, ys)]), rB g25 100 ([.int .i64 b, r3]), rB g 98 ([dv, v26_13, .map (some mg)]), rR u8 5 dv xs, rM mg (fset (yng ps) b (ps.length : Int))] := Hold.setB H9 2 rfl b17 c17 rfl
  clear H9
  clear b17 c17
  refine ⟨.inl (by kernel_rfl), ?_⟩
  refine edd (by kernel_rfl) ?_
  have H11 : Hold w F w17 [rR kW 100 v26_13 (ps ++ [(b, ys)]), rB g25 100 ([.int .i64 b, r3]), rB g 98 ([dv, v26_13, .map (some mg)]), rR u8 5 dv xs, rM mg (yng (ps ++ [(b, ys)]))] := (by rw [yng_app]; exact H10)
  clear H10
  have H12 : Hold w F w17 [rB g 98 ([dv, v26_13, .map (some mg)]), rR u8 5 dv xs, rR kW 100 v26_13 (ps ++ [(b, ys)]), rM mg (yng (ps ++ [(b, ys)]))] := (show Hold w F w17 ([rB g 98 ([dv, v26_13, .map (some mg)]), rR u8 5 dv xs, rR kW 100 v26_13 (ps ++ [(b, ys)]), rM mg (yng (ps ++ [(b, ys)]))] ++ [rB g25 100 ([.int .i64 b, r3])]) from Hold.re H11 [2, 3, 0, 4, 1] (by kernel_rfl) (by rfl)).drop
  clear H11
  exact fin0 Tryz.results19 ⟨_, H12⟩
theorem spin {w : World} {F G : List Nat} {v u : Value} {xs : List Int} {ps : List Wr} (hx : u8.R w F v xs) (hp : kW.R w G u ps) (lx : xs.length ≤ 1000000000) (hlp : ps.length ≤ 2000000) (lxx : ∀ x, x ∈ ps → x.2.length ≤ 1000000000) : Ret Tryz.prog 16 #[.agg #[v, u]] w (fun r w' => ∃ g dv wv mg, r = .pointer (some ⟨g, 0, none⟩) ∧ Hold w [] w' [rB g 98 [dv, wv, .map (some mg)], rR u8 5 dv xs, rR kW 100 wv ps, rM mg (yng ps)]) := by
  refine enter Tryz.func16 rfl Tryz.ntmps16 (by rfl) (by rfl) ?_
  have H0 : Hold w [] w [] := Hold.start w
  refine sq (rg (ef (xbx (t := 33) rfl rfl) ?_))
  rintro _ w1 ⟨g1, e1, rfl, -, b1, c1⟩
  have H1 : Hold w [] w1 [rB g1 33 ([v, u])] := Hold.newB H0 e1 b1 c1
  clear H0
  clear e1 b1 c1
  have b2 : B w1 g1 33 ([v, u]) := Hold.blk H1 0 rfl
  refine r (sa rfl) (re (sq (rg (r (fa Tryz.underlying33 rfl ti22 rfl rfl) (r (ldb Tryz.underlying22 rfl rfl b2 rfl) (cl go35 (clone (hx.t (Hold.ch H1)) lx) (ac rfl an) ?_))))))
  rintro r3 wc Hc
  have H2 : Hold w [] wc [rB g1 33 ([v, u]), rR u8 5 r3 xs] := Hold.news H1 Hc
  clear H1
  clear Hc
  refine ef (xmm) ?_
  rintro _ w4 ⟨m9, e4, rfl, b4, c4⟩
  have H3 : Hold w [] w4 [rB g1 33 ([v, u]), rR u8 5 r3 xs, rM m9 (fun _ => none)] := Hold.newM H2 e4 b4 c4
  clear H2
  clear e4 b4 c4
  obtain ⟨_, R5⟩ : ∃ F, Kd.R u8 w4 F r3 xs := Hold.row H3 1 rfl
  refine r (bd (r := [r3, .slice none 0 0, .map (some m9)]) ti98 pl98 (pc rfl (cel1 (R5).oneCell) (pc rfl (cel1 rfl) pn)) rfl) (ef (xbx (t := 98) rfl rfl) ?_)
  rintro _ w6 ⟨g11, e6, rfl, -, b6, c6⟩
  have H4 : Hold w [] w6 [rB g1 33 ([v, u]), rR u8 5 r3 xs, rM m9 (fun _ => none), rB g11 98 ([r3, .slice none 0 0, .map (some m9)])] := Hold.newB H3 e6 b6 c6
  clear H3
  clear e6 b6 c6
  have b7 : B w6 g1 33 ([v, u]) := Hold.blk H4 0 rfl
  refine r (sa rfl) (re (sq (sq (rg (r (fa Tryz.underlying33 rfl ti31 rfl rfl) (r (ldb Tryz.underlying31 rfl rfl b7 rfl) (r (ln Tryz.underlying31 rfl ((hp.t (Hold.ch H4)))) (r (mv rfl) (re (bl ?_))))))))))
  have H5 : Hold w [] w6 [rB g1 33 ([v, u]), rR u8 5 r3 xs, rM m9 (fun _ => none), rB g11 98 ([r3, .slice none 0 0, .map (some m9)]), rR kW 100 (.slice none 0 0) ([])] := Hold.nilrow kW 100 H4
  clear H4
  have H6 : Hold w [] w6 [rB g11 98 ([r3, .slice none 0 0, .map (some m9)]), rR u8 5 r3 xs, rR kW 100 (.slice none 0 0) ([]), rM m9 (fun _ => none)] := (show Hold w [] w6 ([rB g11 98 ([r3, .slice none 0 0, .map (some m9)]), rR u8 5 r3 xs, rR kW 100 (.slice none 0 0) ([]), rM m9 (fun _ => none)] ++ [rB g1 33 ([v, u])]) from Hold.re H5 [3, 1, 4, 2, 0] (by kernel_rfl) (by rfl)).drop
  clear H5
  refine lp (α := Nat × Value) (fun (k, o) ρ w' => ρ 3 = .pointer (some ⟨g11, 0, none⟩) ∧ ρ 13 = u ∧ ρ 14 = .int .i64 (ps.length : Int) ∧ ρ 15 = .int .i64 (k : Int) ∧ Hold w [] w' [rB g11 98 ([r3, o, .map (some m9)]), rR u8 5 r3 xs, rR kW 100 o (ps.take k), rM m9 (yng (ps.take k))] ∧ k ≤ ps.length) (fun (k, o) => ps.length - k) (0, .slice none 0 0) ?_ ?_
  · exact ⟨rfl, rfl, rfl, rfl, H6, by omega⟩
  clear H6
  rintro ⟨k, o⟩ ρ w507 ⟨y3, y13, y14, y15, H7, hk⟩
  refine sq (rg (r (bi y15 y14 rfl) (re (sq ?_))))
  refine cp rfl (fun h => ?_) (fun h => ?_)
  · have hk' : k < ps.length := by omega
    have hl := lxx _ (List.getElem_mem hk')
    refine sk (sq (bl (sq (rg ?_))))
    obtain ⟨c17_8, ad17_8, k17_8, e17_8, p17_8⟩ := Kd.R.place hp k (by omega)
    obtain ⟨vd17_8, Fd17_8, Rd17_8, sd17_8, q17_8⟩ := wr_at p17_8
    refine r (ix (j := k) Tryz.underlying31 ti100 (y13.trans e17_8) y15 (by omega)) (r (la [.int .i64 ((ps[k]).1), vd17_8] Tryz.underlying100 rfl ti100 rfl rfl (fun m u h => (Ch.cell (Hold.ch H7) (q17_8 m u h)))) (ef (xal ti100) ?_))
    rintro _ w9 ⟨g5, e9, rfl, -, b9, c9⟩
    have H8 : Hold w [] w9 [rB g11 98 ([r3, o, .map (some m9)]), rR u8 5 r3 xs, rR kW 100 o (ps.take k), rM m9 (yng (ps.take k)), rB g5 100 ([.int .i64 0, .slice none 0 0])] := Hold.newB H7 e9 b9 c9
    clear H7
    clear e9 b9 c9
    have b10 : B w9 g5 100 ([.int .i64 0, .slice none 0 0]) := Hold.blk H8 4 rfl
    refine ef0 (xst (vs := [.int .i64 ((ps[k]).1), vd17_8]) ti100 rfl rfl rfl b10 rfl (Nat.le_of_ble_eq_true rfl) (oc rfl (oc ((Rd17_8.t (Hold.ch H8))).oneCell on))) ?_
    rintro w11 ⟨-, b11, c11⟩
    have H9 : Hold w [] w11 [rB g11 98 ([r3, o, .map (some m9)]), rR u8 5 r3 xs, rR kW 100 o (ps.take k), rM m9 (yng (ps.take k)), rB g5 100 ([.int .i64 ((ps[k]).1), vd17_8])] := Hold.setB H8 4 rfl b11 c11 rfl
    clear H8
    clear b11 c11
    have b12 : B w11 g5 100 ([.int .i64 ((ps[k]).1), vd17_8]) := Hold.blk H9 4 rfl
    obtain ⟨F13, hF13, n13, s13, K13⟩ := Hold.front (Γ := [rB g11 98 ([r3, o, .map (some m9)]), rR u8 5 r3 xs, rR kW 100 o (ps.take k), rM m9 (yng (ps.take k))]) (Δ := [rB g5 100 ([.int .i64 ((ps[k]).1), vd17_8])]) H9
    refine re (rg (r (mv y3) (r (fa Tryz.underlying100 rfl ti2 rfl rfl) (r (ldb Tryz.underlying2 rfl rfl b12 rfl) (r (fa Tryz.underlying100 rfl ti22 rfl rfl) (r (ldb Tryz.underlying22 rfl rfl b12 rfl) (cl go19 (platter_write (b := ps[k].1) hF13 n13 (Rd17_8.t (Hold.ch H9)) (dis_of0 Rd17_8.lt s13) hl (by simp; omega)) (ac rfl (ac rfl (ac rfl an))) ?_)))))))
    rintro _ ww ⟨wv', Hw⟩
    have H10 : Hold w [] ww [rB g11 98 ([r3, wv', .map (some m9)]), rR u8 5 r3 xs, rR kW 100 wv' (ps.take k ++ [(ps[k].1, ps[k].2)]), rM m9 (yng (ps.take k ++ [(ps[k].1, ps[k].2)])), rB g5 100 ([.int .i64 ((ps[k]).1), vd17_8])] := Hold.call K13 Hw
    clear H9
    clear K13 hF13 n13 s13
    clear Hw
    refine re (be ?_)
    refine gen (fun ρ => ρ 3 = .pointer (some ⟨g11, 0, none⟩) ∧ ρ 13 = u ∧ ρ 14 = .int .i64 (ps.length : Int) ∧ ρ 15 = .int .i64 (k : Int) ∧ True) ⟨y3, y13, y14, y15, trivial⟩ ?_
    rintro ρ ⟨z3, z13, z14, z15, -⟩
    refine rg (r (ad (a := (k : Int)) (b := 1) ((k : Int) + 1) z15 rfl (by omega)) (r (mv rfl) (re ?_)))
    have H11 : Hold w [] ww [rB g11 98 ([r3, wv', .map (some m9)]), rR u8 5 r3 xs, rR kW 100 wv' (ps.take k ++ [(ps[k].1, ps[k].2)]), rM m9 (yng (ps.take k ++ [(ps[k].1, ps[k].2)]))] := (show Hold w [] ww ([rB g11 98 ([r3, wv', .map (some m9)]), rR u8 5 r3 xs, rR kW 100 wv' (ps.take k ++ [(ps[k].1, ps[k].2)]), rM m9 (yng (ps.take k ++ [(ps[k].1, ps[k].2)]))] ++ [rB g5 100 ([.int .i64 ((ps[k]).1), vd17_8])]) from Hold.re H10 [0, 1, 2, 3, 4] (by kernel_rfl) (by rfl)).drop
    clear H10
    exact ag (k + 1, wv') ⟨z3, z13, z14, rfl, (by rw [List.take_succ_eq_append_getElem hk']; exact H11), by omega⟩ (by first | omega | (dsimp only; omega))
  · obtain rfl : k = ps.length := by omega
    refine ex rfl (sq (rg (r (mv y3) (r (sa rfl) (re (rt ?_))))))
    exact fin1 (v := .pointer (some ⟨g11, 0, none⟩)) Tryz.results16 rfl ⟨_, _, _, _, rfl, (by rw [List.take_length] at H7; exact H7)⟩
theorem platter_disk {w : World} {F G : List Nat} {g : Nat} {dv wv mq : Value} {xs : List Int} {ps : List Wr} (hB : B w g 98 [dv, wv, mq]) (hx : u8.R w F dv xs) (hp : kW.R w G wv ps) (lx : xs.length ≤ 1000000000) (hlp : ps.length ≤ 2000000) (lxx : ∀ x, x ∈ ps → x.2.length ≤ 1000000000) :
    Ret Tryz.prog 13 #[.pointer (some ⟨g, 0, none⟩)] w (fun r w' => ∃ v u, r = .agg #[v, u] ∧ Hold w [] w' [rR u8 5 v xs, rR kW 100 u ps]) := by
  refine enter Tryz.func13 rfl Tryz.ntmps13 (by rfl) (by rfl) ?_
  have H0 : Hold w [] w [] := Hold.start w
  refine sq (rg (ef (xal ti33) ?_))
  rintro _ w1 ⟨g2, e1, rfl, -, b1, c1⟩
  have H1 : Hold w [] w1 [rB g2 33 ([.slice none 0 0, .slice none 0 0])] := Hold.newB H0 e1 b1 c1
  clear H0
  clear e1 b1 c1
  refine re (sq (rg (r (mv rfl) (r (nck rfl) (r (fa Tryz.underlying98 rfl ti22 rfl rfl) (r (ldb Tryz.underlying22 rfl rfl ((Hold.ch H1).b0 hB) rfl) (cl go35 (clone (hx.t (Hold.ch H1)) lx) (ac rfl an) ?_)))))))
  rintro r3 wc Hc
  have H2 : Hold w [] wc [rB g2 33 ([.slice none 0 0, .slice none 0 0]), rR u8 5 r3 xs] := Hold.news H1 Hc
  clear H1
  clear Hc
  obtain ⟨_, R3⟩ : ∃ F, Kd.R u8 wc F r3 xs := Hold.row H2 1 rfl
  refine r (bd (r := [r3, .slice none 0 0]) ti33 pl33 (pc rfl (cel1 (R3).oneCell) pn) rfl) (ef (xal ti33) ?_)
  rintro _ w4 ⟨g3, e4, rfl, -, b4, c4⟩
  have H3 : Hold w [] w4 [rB g2 33 ([.slice none 0 0, .slice none 0 0]), rR u8 5 r3 xs, rB g3 33 ([.slice none 0 0, .slice none 0 0])] := Hold.newB H2 e4 b4 c4
  clear H2
  clear e4 b4 c4
  have b5 : B w4 g3 33 ([.slice none 0 0, .slice none 0 0]) := Hold.blk H3 2 rfl
  obtain ⟨_, R7⟩ : ∃ F, Kd.R u8 w4 F r3 xs := Hold.row H3 1 rfl
  refine ef0 (xst (vs := [r3, .slice none 0 0]) ti33 rfl rfl rfl b5 rfl (Nat.le_of_ble_eq_true rfl) (oc (R7).oneCell (oc rfl on))) ?_
  rintro w6 ⟨-, b6, c6⟩
  have H4 : Hold w [] w6 [rB g2 33 ([.slice none 0 0, .slice none 0 0]), rR u8 5 r3 xs, rB g3 33 ([r3, .slice none 0 0])] := Hold.setB H3 2 rfl b6 c6 rfl
  clear H3
  clear b6 c6
  refine re (sq (sq (rg (r (mv rfl) (r (nck rfl) (r (fa Tryz.underlying98 rfl ti31 rfl rfl) (r (ldb Tryz.underlying31 rfl rfl ((Hold.ch H4).b0 hB) rfl) (r (ln Tryz.underlying31 rfl ((hp.t (Hold.ch H4)))) (r (mv rfl) (re (bl ?_)))))))))))
  have H5 : Hold w [] w6 [rB g2 33 ([.slice none 0 0, .slice none 0 0]), rR u8 5 r3 xs, rB g3 33 ([r3, .slice none 0 0]), rR kW 100 (.slice none 0 0) ([])] := Hold.nilrow kW 100 H4
  clear H4
  have H6 : Hold w [] w6 [rB g2 33 ([.slice none 0 0, .slice none 0 0]), rB g3 33 ([r3, .slice none 0 0]), rR u8 5 r3 xs, rR kW 100 (.slice none 0 0) ([])] := Hold.re H5 [0, 2, 1, 3] (by kernel_rfl) (by rfl)
  clear H5
  refine lp (α := Nat × Value) (fun (k, o) ρ w' => ρ 2 = .pointer (some ⟨g2, 0, none⟩) ∧ ρ 3 = .pointer (some ⟨g3, 0, none⟩) ∧ ρ 15 = wv ∧ ρ 16 = .int .i64 (ps.length : Int) ∧ ρ 17 = .int .i64 (k : Int) ∧ Hold w [] w' [rB g2 33 ([.slice none 0 0, .slice none 0 0]), rB g3 33 ([r3, o]), rR u8 5 r3 xs, rR kW 100 o (ps.take k)] ∧ k ≤ ps.length) (fun (k, o) => ps.length - k) (0, .slice none 0 0) ?_ ?_
  · exact ⟨rfl, rfl, rfl, rfl, rfl, H6, by omega⟩
  clear H6
  rintro ⟨k, o⟩ ρ w507 ⟨y2, y3, y15, y16, y17, H7, hk⟩
  refine sq (rg (r (bi y17 y16 rfl) (re (sq ?_))))
  refine cp rfl (fun h => ?_) (fun h => ?_)
  · have hk' : k < ps.length := by omega
    have hl := lxx _ (List.getElem_mem hk')
    refine sk (sq (bl (sq (rg ?_))))
    obtain ⟨c19_8, ad19_8, k19_8, e19_8, p19_8⟩ := Kd.R.place hp k (by omega)
    obtain ⟨vd19_8, Fd19_8, Rd19_8, sd19_8, q19_8⟩ := wr_at p19_8
    refine r (ix (j := k) Tryz.underlying31 ti100 (y15.trans e19_8) y17 (by omega)) (r (la [.int .i64 ((ps[k]).1), vd19_8] Tryz.underlying100 rfl ti100 rfl rfl (fun m u h => (Ch.cell (Hold.ch H7) (q19_8 m u h)))) (ef (xal ti100) ?_))
    rintro _ w9 ⟨g5, e9, rfl, -, b9, c9⟩
    have H8 : Hold w [] w9 [rB g2 33 ([.slice none 0 0, .slice none 0 0]), rB g3 33 ([r3, o]), rR u8 5 r3 xs, rR kW 100 o (ps.take k), rB g5 100 ([.int .i64 0, .slice none 0 0])] := Hold.newB H7 e9 b9 c9
    clear H7
    clear e9 b9 c9
    have b10 : B w9 g5 100 ([.int .i64 0, .slice none 0 0]) := Hold.blk H8 4 rfl
    refine ef0 (xst (vs := [.int .i64 ((ps[k]).1), vd19_8]) ti100 rfl rfl rfl b10 rfl (Nat.le_of_ble_eq_true rfl) (oc rfl (oc ((Rd19_8.t (Hold.ch H8))).oneCell on))) ?_
    rintro w11 ⟨-, b11, c11⟩
    have H9 : Hold w [] w11 [rB g2 33 ([.slice none 0 0, .slice none 0 0]), rB g3 33 ([r3, o]), rR u8 5 r3 xs, rR kW 100 o (ps.take k), rB g5 100 ([.int .i64 ((ps[k]).1), vd19_8])] := Hold.setB H8 4 rfl b11 c11 rfl
    clear H8
    clear b11 c11
    refine re ?_
    refine rde mixed ?_
    intro w12 c12
    have H10 : Hold w [] w12 [rB g2 33 ([.slice none 0 0, .slice none 0 0]), rB g3 33 ([r3, o]), rR u8 5 r3 xs, rR kW 100 o (ps.take k), rB g5 100 ([.int .i64 ((ps[k]).1), vd19_8])] := Hold.t H9 c12
    clear H9
    clear c12
    have H11 : Hold w [] w12 [rR kW 100 o (ps.take k), rB g2 33 ([.slice none 0 0, .slice none 0 0]), rB g3 33 ([r3, o]), rR u8 5 r3 xs, rB g5 100 ([.int .i64 ((ps[k]).1), vd19_8])] := Hold.re H10 [3, 0, 1, 2, 4] (by kernel_rfl) (by rfl)
    clear H10
    obtain ⟨Fd13, hFd13, nd13, Kd13, Xd13, sd13⟩ := Hold.frontx (Γ := [rR kW 100 o (ps.take k)]) (Δ := [rB g2 33 ([.slice none 0 0, .slice none 0 0]), rB g3 33 ([r3, o]), rR u8 5 r3 xs, rB g5 100 ([.int .i64 ((ps[k]).1), vd19_8])]) H11
    have H13d0 : Hold w12 Fd13 w12 [rR kW 100 o (ps.take k)] := Hold.begin hFd13 nd13
    refine ⟨fun w' => Ch Fd13 w12 w', Ch.refl _ _, ?_⟩
    obtain ⟨_, ⟨rfl, b14⟩, x14⟩ := Xd13 1 (rB g3 33 ([r3, o])) rfl
    obtain ⟨_, ⟨rfl, b15⟩, x15⟩ := Xd13 3 (rB g5 100 ([.int .i64 ((ps[k]).1), vd19_8])) rfl
    refine edt 0 rfl (by kernel_rfl) (fun w' hS => fa Tryz.underlying33 rfl ti31 rfl y3) (edt 1 rfl (by kernel_rfl) (fun w' hS => ldb Tryz.underlying31 rfl rfl (hS.b b14 (x14 _ (by simp))) rfl) (edt 2 rfl (by kernel_rfl) (fun w' hS => fa Tryz.underlying100 rfl ti2 rfl rfl) (edt 3 rfl (by kernel_rfl) (fun w' hS => ldb Tryz.underlying2 rfl rfl (hS.b b15 (x15 _ (by simp))) rfl) (edt 4 rfl (by kernel_rfl) (fun w' hS => fa Tryz.underlying100 rfl ti22 rfl rfl) (edt 5 rfl (by kernel_rfl) (fun w' hS => ldb Tryz.underlying22 rfl rfl (hS.b b15 (x15 _ (by simp))) rfl) (ed1 6 (by kernel_rfl) <| euc rfl go35 (ac rfl an) (clone ((Rd19_8.t (Hold.ch H11)).tt (Hold.ch H13d0) (dis_of0 Rd19_8.lt sd13)) hl) ?_))))))
    rintro r4 wc2 Hc2
    have H12d : Hold w12 Fd13 wc2 [rR kW 100 o (ps.take k), rR u8 5 r4 (ps[k].2)] := Hold.news H13d0 Hc2
    clear H13d0
    clear Hc2
    refine ⟨.inr (Hold.ch H12d), ?_⟩
    obtain ⟨_, R17⟩ : ∃ F, Kd.R u8 wc2 F r4 (ps[k].2) := Hold.row H12d 1 rfl
    refine ed1 7 (by kernel_rfl) <| eur rfl (bd (r := [.int .i64 ((ps[k]).1), r4]) ti100 pl100 (pc rfl (cel1 rfl) (pc rfl (cel1 (R17).oneCell) pn)) rfl) (.inr (Hold.ch H12d)) ?_
    refine ed1 8 (by kernel_rfl) <| euf rfl (xbs1 (cs := [.int .i64 ((ps[k]).1), r4]) Tryz.underlying31 ti100 rfl rfl rfl rfl rfl) ?_
    rintro _ w18 ⟨g29, e18, rfl, -, b18, c18⟩
    have H13d : Hold w12 Fd13 w18 [rR kW 100 o (ps.take k), rR u8 5 r4 (ps[k].2), rB g29 100 ([.int .i64 ((ps[k]).1), r4])] := Hold.newB H12d e18 b18 c18
    clear H12d
    clear e18 b18 c18
    refine ⟨.inr (Hold.ch H13d), ?_⟩
    have b20 : B w18 g29 100 ([.int .i64 ((ps[k]).1), r4]) := Hold.blk H13d 2 rfl
    obtain ⟨F21, hF21, n21, s21, K21⟩ := Hold.front (Γ := [rR kW 100 o (ps.take k), rR u8 5 r4 (ps[k].2)]) (Δ := [rB g29 100 ([.int .i64 ((ps[k]).1), r4])]) H13d
    obtain ⟨Fa21, _, rfl, Wa21, Fb21, _, rfl, Wb21, rfl⟩ := hF21
    replace Wa21 : Kd.W kW 100 w18 Fa21 o (ps.take k) := Wa21
    replace Wb21 : Kd.W u8 5 w18 Fb21 r4 (ps[k].2) := Wb21
    refine ed1 9 (by kernel_rfl) <| euf rfl (xapb (ys := [((ps[k]).1, ps[k].2)]) (G := Fb21) Tryz.underlying31 ti100 rfl rfl rfl Wa21 b20 (els_one (R := Kd.O kW _) (show Kd.O kW _ _ ((ps[k]).1, ps[k].2) _ from ⟨[], _, [_], [_], rfl, rfl, ⟨rfl, rfl⟩, _, rfl, Wb21⟩)) (by simpa using n21) (by simp; omega)) ?_
    rintro v30_19 w19 ⟨F19, A19⟩
    have H14d : Hold w12 Fd13 w19 [rR kW 100 v30_19 ((ps.take k) ++ [((ps[k]).1, ps[k].2)]), rB g29 100 ([.int .i64 ((ps[k]).1), r4])] := Hold.apd2 K21 (by simp) Wa21 A19
    clear H13d
    refine ⟨.inr (Hold.ch H14d), ?_⟩
    have H15 : Hold w [] w19 [rR kW 100 v30_19 ((ps.take k) ++ [((ps[k]).1, ps[k].2)]), rB g29 100 ([.int .i64 ((ps[k]).1), r4]), rB g2 33 ([.slice none 0 0, .slice none 0 0]), rB g3 33 ([r3, o]), rR u8 5 r3 xs, rB g5 100 ([.int .i64 ((ps[k]).1), vd19_8])] := Hold.call Kd13 H14d
    clear H14d H11
    have b22 : B w19 g3 33 ([r3, o]) := Hold.blk H15 3 rfl
    obtain ⟨_, R24⟩ : ∃ F, Kd.R kW w19 F v30_19 ((ps.take k) ++ [((ps[k]).1, ps[k].2)]) := Hold.row H15 0 rfl
    refine edt 10 rfl (by kernel_rfl) (fun w' hS => fa Tryz.underlying33 rfl ti31 rfl y3) (ed1 11 (by kernel_rfl) <| euf0 rfl (xst (vs := [v30_19]) ti31 rfl rfl (cel1 (R24).oneCell) b22 rfl (Nat.le_of_ble_eq_true rfl) (ones1 (R24).oneCell)) ?_)
    rintro w23 ⟨-, b23, c23⟩
    have H16 : Hold w [] w23 [rR kW 100 v30_19 ((ps.take k) ++ [((ps[k]).1, ps[k].2)]), rB g29 100 ([.int .i64 ((ps[k]).1), r4]), rB g2 33 ([.slice none 0 0, .slice none 0 0]), rB g3 33 ([r3, v30_19]), rR u8 5 r3 xs, rB g5 100 ([.int .i64 ((ps[k]).1), vd19_8])] := Hold.setB H15 3 rfl b23 c23 rfl
    clear H15
    clear b23 c23
    refine ⟨.inl (by kernel_rfl), ?_⟩
    refine edd (by kernel_rfl) ?_
    refine be ?_
    refine gen (fun ρ => ρ 2 = .pointer (some ⟨g2, 0, none⟩) ∧ ρ 3 = .pointer (some ⟨g3, 0, none⟩) ∧ ρ 15 = wv ∧ ρ 16 = .int .i64 (ps.length : Int) ∧ ρ 17 = .int .i64 (k : Int) ∧ True) ⟨y2, y3, y15, y16, y17, trivial⟩ ?_
    rintro ρ ⟨z2, z3, z15, z16, z17, -⟩
    refine rg (r (ad (a := (k : Int)) (b := 1) ((k : Int) + 1) z17 rfl (by omega)) (r (mv rfl) (re ?_)))
    have H17 : Hold w [] w23 [rB g2 33 ([.slice none 0 0, .slice none 0 0]), rB g3 33 ([r3, v30_19]), rR u8 5 r3 xs, rR kW 100 v30_19 ((ps.take k) ++ [((ps[k]).1, ps[k].2)])] := (show Hold w [] w23 ([rB g2 33 ([.slice none 0 0, .slice none 0 0]), rB g3 33 ([r3, v30_19]), rR u8 5 r3 xs, rR kW 100 v30_19 ((ps.take k) ++ [((ps[k]).1, ps[k].2)])] ++ [rB g29 100 ([.int .i64 ((ps[k]).1), r4]), rB g5 100 ([.int .i64 ((ps[k]).1), vd19_8])]) from Hold.re H16 [2, 3, 4, 0, 1, 5] (by kernel_rfl) (by rfl)).drop
    clear H16
    exact ag (k + 1, v30_19) ⟨z2, z3, z15, z16, rfl, (by rw [List.take_succ_eq_append_getElem hk']; exact H17), by omega⟩ (by first | omega | (dsimp only; omega))
  · obtain rfl : k = ps.length := by omega
    have H8 : Hold w [] w507 [rB g2 33 ([.slice none 0 0, .slice none 0 0]), rB g3 33 ([r3, o]), rR u8 5 r3 xs, rR kW 100 o ps] := (by rw [List.take_length] at H7; exact H7)
    clear H7
    have b8 : B w507 g3 33 ([r3, o]) := Hold.blk H8 1 rfl
    have b9 : B w507 g2 33 ([.slice none 0 0, .slice none 0 0]) := Hold.blk H8 0 rfl
    obtain ⟨_, R11⟩ : ∃ F, Kd.R kW w507 F o ps := Hold.row H8 3 rfl
    obtain ⟨_, R12⟩ : ∃ F, Kd.R u8 w507 F r3 xs := Hold.row H8 2 rfl
    refine ex rfl (sq (rg (r (lab [r3, o] Tryz.underlying33 rfl ti33 y3 b8 rfl rfl) (ef0 (xst (vs := [r3, o]) ti33 y2 rfl rfl b9 rfl (Nat.le_of_ble_eq_true rfl) (oc (R12).oneCell (oc (R11).oneCell on))) ?_))))
    rintro w10 ⟨-, b10, c10⟩
    have H9 : Hold w [] w10 [rB g2 33 ([r3, o]), rB g3 33 ([r3, o]), rR u8 5 r3 xs, rR kW 100 o ps] := Hold.setB H8 0 rfl b10 c10 rfl
    clear H8
    clear b10 c10
    refine re (rt ?_)
    have b13 : B w10 g2 33 ([r3, o]) := Hold.blk H9 0 rfl
    have H10 : Hold w [] w10 [rR u8 5 r3 xs, rR kW 100 o ps] := (show Hold w [] w10 ([rR u8 5 r3 xs, rR kW 100 o ps] ++ [rB g2 33 ([r3, o]), rB g3 33 ([r3, o])]) from Hold.re H9 [2, 3, 0, 1] (by kernel_rfl) (by rfl)).drop
    clear H9
    exact finc  (cs := [r3, o]) Tryz.results13 Tryz.underlying33 rfl ti33 y2 b13 rfl  ⟨_, _, rfl, H10⟩
end Go.Proofs.YtanfhikfeabidaaGreatDoor

namespace Go.Proofs.YtanfhikfeabidaaGreatDoor
open Go Go.Eng
set_option maxRecDepth 100000
set_option maxHeartbeats 4000000
set_option linter.unusedVariables false
set_option linter.unusedSimpArgs false
structure VD (xs : List Int) (ps : List Wr) : Prop where
  mod : (xs.length : Int) % 64 = 0
  one : 1 ≤ blks xs
  top : blks xs ≤ 1200
  num : ps.length ≤ 400
  ok : ∀ x, x ∈ ps → wok (blks xs) x
theorem VD.len {xs : List Int} {ps : List Wr} (h : VD xs ps) : (xs.length : Int) = 64 * blks xs := by have := h.mod; unfold blks; omega
theorem VD.at {xs : List Int} {ps : List Wr} (h : VD xs ps) {b : Int} (hb : 0 ≤ b ∧ b < blks xs) : b.toNat * 64 + 64 ≤ xs.length := by have := h.len; omega
abbrev drOk (xs : List Int) (ps : List Wr) (b : Int) : Prop := vdisk xs ps = true ∧ 0 ≤ b ∧ b < blks xs
def drD (xs : List Int) (ps : List Wr) (b : Int) : List Int := if drOk xs ps b then readD xs ps b else []
end Go.Proofs.YtanfhikfeabidaaGreatDoor

namespace Go.Proofs.YtanfhikfeabidaaGreatDoor
open Go Go.Eng
set_option maxRecDepth 100000
set_option maxHeartbeats 4000000
set_option linter.unusedVariables false
def marks8 (k : Int) (n : Nat) : List Int := (List.range n).map (fun i : Nat => k + (i : Int))
end Go.Proofs.YtanfhikfeabidaaGreatDoor

namespace Go.Proofs.YtanfhikfeabidaaGreatDoor
open Go Go.Eng
set_option maxRecDepth 100000
set_option maxHeartbeats 4000000
set_option linter.unusedVariables false
theorem inLog {w : World} {a0 a1 a2 a3 a4 x : Int} : Ret Tryz.prog 42 #[.agg #[.int .i64 a0, .int .i64 a1, .int .i64 a2, .int .i64 a3, .int .i64 a4], .int .i64 x] w (fun r w' => r = .bool (decide (a2 ≤ x ∧ x < a3)) ∧ Ch [] w w') := by
  refine enter Tryz.func42 rfl Tryz.ntmps42 (by rfl) (by rfl) ?_
  refine sq (rg (bx rfl ?_))
  intro g2 wg2 eg2 sg2 bg2 cg2
  have qg2 := le_new (Ch.refl [] w).size eg2
  have hcg2 : Ch [] w wg2 := (Ch.refl [] w).t cg2
  replace bg2 : B wg2 g2 51 ([.int .i64 a0, .int .i64 a1, .int .i64 a2, .int .i64 a3, .int .i64 a4]) := bg2
  refine r (sa rfl) (re (sq (rg (r (mv rfl) (r (fa Tryz.underlying51 rfl ti2 rfl rfl) (r (ldb Tryz.underlying2 rfl rfl bg2 rfl) (r (bi rfl rfl rfl) (r (mv rfl) ?_))))))))
  refine sp 9 rfl (fun h => ?_) (fun h => ?_)
  · refine gy rfl rfl rfl (r (mv rfl) (gy rfl rfl rfl (r (fa Tryz.underlying51 rfl ti2 rfl rfl) (gy rfl rfl rfl (r (ldb Tryz.underlying2 rfl rfl bg2 rfl) (gy rfl rfl rfl (r (bi rfl rfl rfl) (r (pk rfl rfl) (r (sa rfl) (re (rt ?_)))))))))))
    exact fin1 (v := .bool (decide (x < a3))) Tryz.results42 rfl ⟨congrArg Value.bool (decide_eq_decide.2 (by omega)), hcg2⟩
  · refine gn rfl rfl rfl (gn rfl rfl rfl (gn rfl rfl rfl (gn rfl rfl rfl (r (pk rfl rfl) (r (sa rfl) (re (rt ?_)))))))
    exact fin1 (v := .bool false) Tryz.results42 rfl ⟨congrArg Value.bool (decide_eq_false (by omega)).symm, hcg2⟩
/-- How many entries lie in segment j of the log that begins at L, of segments of b blocks. -/
def inSeg (L b : Int) (j : Nat) (x : Int × Bool) : Bool := decide (L + (j : Int) * b ≤ x.1 ∧ x.1 < L + (j : Int) * b + b)
def cnt (L b : Int) (j : Nat) (xs : List (Int × Bool)) : Int := ((xs.filter (inSeg L b j)).length : Int)
def segc (L b : Int) (n : Nat) (xs : List (Int × Bool)) : List Int := (List.range n).map (fun j => cnt L b j xs)
def segCounts (xs : List (Int × Bool)) (s b : Int) : List Int := if geo s b then segc (logs s b) b s.toNat xs else []
theorem cnt_succ {L b : Int} {j : Nat} {xs : List (Int × Bool)} {k : Nat} (hk : k < xs.length) : cnt L b j (xs.take (k + 1)) = cnt L b j (xs.take k) + (if inSeg L b j xs[k] = true then 1 else 0) := by
  rw [List.take_succ_eq_append_getElem hk]
  simp only [cnt, List.filter_append, List.length_append, List.filter_cons, List.filter_nil]
  split <;> simp
theorem cnt_le {L b : Int} {j : Nat} {xs : List (Int × Bool)} : 0 ≤ cnt L b j xs ∧ cnt L b j xs ≤ xs.length := by
  have := List.length_filter_le (inSeg L b j) xs
  simp only [cnt]; omega
theorem segc_len (L b : Int) (n : Nat) (xs : List (Int × Bool)) : (segc L b n xs).length = n := by simp [segc]
theorem segc_nil (L b : Int) (n : Nat) : segc L b n [] = List.replicate n 0 := by
  simp only [segc, cnt, List.filter_nil, List.length_nil]
  induction n with
  | zero => rfl
  | succ n ih => rw [List.range_succ, List.map_append, ih, List.replicate_succ']; rfl
/-- An entry in the log lies in just one segment. -/
theorem inSeg_iff {L b a : Int} {j : Nat} {x : Int × Bool} (hb : 0 < b) (hx : L ≤ x.1) (ha : (x.1 - L) / b = a) : inSeg L b j x = decide ((j : Int) = a) := by
  unfold inSeg
  apply decide_eq_decide.2
  subst ha
  have h1 := Int.mul_ediv_add_emod (x.1 - L) b
  have h2 := Int.emod_nonneg (x.1 - L) (show b ≠ 0 by omega)
  have h3 := Int.emod_lt_of_pos (x.1 - L) hb
  constructor
  · rintro ⟨g1, g2⟩
    have : (x.1 - L) / b = (j : Int) := by
      rw [show x.1 - L = (x.1 - L - (j : Int) * b) + (j : Int) * b by omega, Int.add_mul_ediv_right _ _ (by omega), Int.ediv_eq_zero_of_lt (by omega) (by omega)]
      omega
    omega
  · intro e
    rw [← e] at h1
    rw [Int.mul_comm] at h1
    omega
theorem inSeg_out {L b : Int} {j n : Nat} {x : Int × Bool} (hb : 0 < b) (hj : j < n) (hx : ¬ (L ≤ x.1 ∧ x.1 < L + (n : Int) * b)) : inSeg L b j x = false := by
  unfold inSeg
  apply decide_eq_false
  rintro ⟨g1, g2⟩
  have h1 : 0 ≤ (j : Int) * b := Int.mul_nonneg (by omega) (by omega)
  have h2 : ((j : Int) + 1) * b ≤ (n : Int) * b := Int.mul_le_mul_of_nonneg_right (by omega) (by omega)
  rw [Int.add_mul, Int.one_mul] at h2
  exact hx ⟨by omega, by omega⟩
theorem segc_out {L b : Int} {n : Nat} {xs : List (Int × Bool)} {k : Nat} (hk : k < xs.length) (hb : 0 < b) (hx : ¬ (L ≤ xs[k].1 ∧ xs[k].1 < L + (n : Int) * b)) : segc L b n (xs.take (k + 1)) = segc L b n (xs.take k) := by
  apply List.map_congr_left
  intro j hj
  rw [cnt_succ hk, inSeg_out hb (List.mem_range.1 hj) hx]
  simp
theorem segc_in {L b : Int} {n q : Nat} {xs : List (Int × Bool)} {k : Nat} (hk : k < xs.length) (hb : 0 < b) (hx : L ≤ xs[k].1) (hq : (xs[k].1 - L) / b = (q : Int)) (hqn : q < n) : (segc L b n (xs.take k)).set q (cnt L b q (xs.take k) + 1) = segc L b n (xs.take (k + 1)) := by
  apply List.ext_getElem
  · simp [segc]
  · intro j h1 h2
    rw [List.getElem_set]
    simp only [segc, List.getElem_map, List.getElem_range]
    rw [cnt_succ hk, inSeg_iff hb hx hq]
    by_cases e : q = j
    · subst e; simp
    · simp [e, show ¬ (j : Int) = (q : Int) by omega]
theorem impl_SegmentCounts {w : World} {F : List Nat} {v : Value} {xs : List (Int × Bool)} {s b : Int} (hx : kE.R w F v xs) (lx : xs.length ≤ 1000000000) :
    Ret Tryz.prog 30 #[v, .agg #[.int .i64 s, .int .i64 b]] w (fun r w' => New i64 2 w w' r (segCounts xs s b) ∧ Ch [] w w') := by
  refine enter Tryz.func30 rfl Tryz.ntmps30 (by rfl) (by rfl) ?_
  refine sq (rg (bx rfl ?_))
  intro g3 wg3 eg3 sg3 bg3 cg3
  have qg3 := le_new (Ch.refl [] w).size eg3
  have hcg3 : Ch [] w wg3 := (Ch.refl [] w).t cg3
  replace bg3 : B wg3 g3 25 ([.int .i64 s, .int .i64 b]) := bg3
  refine r (sa rfl) (re (sq (sq (rg (r (lab [.int .i64 s, .int .i64 b] Tryz.underlying25 rfl ti25 rfl bg3 rfl rfl) (cl go14 (valid) (ac rfl an) ?_))))))
  rintro r wa ⟨rfl, ca⟩
  replace bg3 := ca.b0 bg3
  have hca : Ch [] w wa := hcg3.t ca
  refine r (nt rfl) (re ?_)
  refine cpn rfl (fun hg => ?_) (fun hg => ?_)
  · rw [show segCounts xs s b = [] from if_neg hg]
    refine sq (rg (r (sa rfl) (re (rt ?_))))
    exact fin1 (v := .slice none 0 0) Tryz.results30 rfl ⟨⟨[], Kd.nil_W _ _ _, List.nodup_nil, by simp⟩, hca⟩
  · have hL : ((lay s b).map (Value.int .i64)).toArray = #[.int .i64 (s * b), .int .i64 (tabs s b), .int .i64 (logs s b), .int .i64 (logs s b + s * b), .int .i64 (s * b - 2 * b)] := by rw [lay, if_pos hg]; rfl
    obtain ⟨hm1, hm2⟩ := geo_mul hg
    have ht : 0 ≤ tabs s b ∧ tabs s b ≤ 33 := by unfold tabs; omega
    have hlg : 0 ≤ logs s b ∧ logs s b ≤ 68 := by unfold logs; omega
    rw [show segCounts xs s b = segc (logs s b) b s.toNat xs from if_pos hg]
    obtain ⟨hg1, hg2, hg3, hg4⟩ := hg
    obtain ⟨m, hm⟩ : ∃ m : Nat, s = (m : Int) := ⟨s.toNat, by omega⟩
    rw [show s.toNat = m by omega]
    refine sk (sq (rg (r (lab [.int .i64 s, .int .i64 b] Tryz.underlying25 rfl ti25 rfl bg3 rfl rfl) (cl go15 (impl_Layout) (ac rfl an) ?_))))
    rintro r wlay ⟨er, clay⟩
    rw [hL] at er
    subst er
    replace bg3 := clay.b0 bg3
    have hclay : Ch [] w wlay := hca.t clay
    refine al ti51 ?_
    intro g5 wg5 eg5 sg5 bg5 cg5
    have ng3_g5 := ne_new bg3.lt eg5
    have qg5 := le_new hclay.size eg5
    replace bg3 := cg5.b0 bg3
    have hcg5 : Ch [] w wg5 := hclay.t cg5
    replace bg5 : B wg5 g5 51 ([.int .i64 0, .int .i64 0, .int .i64 0, .int .i64 0, .int .i64 0]) := bg5
    refine st ti51 rfl rfl bg5 rfl (Nat.le_of_ble_eq_true rfl) (one_all rfl) ?_
    intro wS3g5 sS3g5 bg5 cS3g5
    replace bg3 := cS3g5.b bg3 (nin1 ng3_g5)
    have hcS3g5 : Ch [] w wS3g5 := hcg5.own cS3g5 qg5
    replace bg5 : B wS3g5 g5 51 ([.int .i64 (s * b), .int .i64 (tabs s b), .int .i64 (logs s b), .int .i64 (logs s b + s * b), .int .i64 (s * b - 2 * b)]) := bg5
    refine re (sq (rg (r (fa Tryz.underlying25 rfl ti2 rfl rfl) (r (ldb Tryz.underlying2 rfl rfl bg3 rfl) ?_))))
    refine mk (dk := i64) (m := m) 0 Tryz.underlying86 ti2 (fun _ => ⟨rfl, rfl⟩) ((show _ = Value.int .i64 s from rfl).trans (by rw [hm])) ((show _ = Value.int .i64 s from rfl).trans (by rw [hm])) (by omega) ?_
    intro v1 w1 F1 W1 n1 f1 c1
    have d1_g3 := old_d f1 bg3.lt
    have d1_g5 := old_d f1 bg5.lt
    replace f1 := low_t hcS3g5 f1
    replace bg3 := c1.b0 bg3
    replace bg5 := c1.b0 bg5
    have hc1 : Ch [] w w1 := hcS3g5.t c1
    refine r (sa rfl) (re (sq (sq ?_)))
    refine gen (fun ρ => ρ 0 = v ∧ ρ 3 = .pointer (some ⟨g3, 0, none⟩) ∧ ρ 4 = .slice none 0 0 ∧ ρ 5 = .pointer (some ⟨g5, 0, none⟩) ∧ ρ 6 = v1 ∧ True) ⟨rfl, rfl, rfl, rfl, rfl, trivial⟩ ?_
    rintro ρ ⟨z0, z3, z4, z5, z6, -⟩
    refine rg (r (mv z0) (r (ln Tryz.underlying58 rfl ((hx.t hc1))) (r (mv rfl) (re (bl ?_)))))
    refine lp (α := Nat × List Nat) (fun (k, F1) ρ w' => ρ 3 = .pointer (some ⟨g3, 0, none⟩) ∧ ρ 5 = .pointer (some ⟨g5, 0, none⟩) ∧ ρ 6 = v1 ∧ ρ 17 = v ∧ ρ 18 = .int .i64 (xs.length : Int) ∧ ρ 19 = .int .i64 (k : Int) ∧ B w' g3 25 ([.int .i64 s, .int .i64 b]) ∧ B w' g5 51 ([.int .i64 (s * b), .int .i64 (tabs s b), .int .i64 (logs s b), .int .i64 (logs s b + s * b), .int .i64 (s * b - 2 * b)]) ∧ Ch [] w w' ∧ Kd.W i64 2 w' F1 v1 (segc (logs s b) b m (xs.take k)) ∧ F1.Nodup ∧ (∀ k, k ∈ F1 → w.heap.size ≤ k) ∧ (∀ k, k ∈ F1 → k ∉ [g3]) ∧ (∀ k, k ∈ F1 → k ∉ [g5]) ∧ k ≤ xs.length) (fun (k, F1) => xs.length - k) (0, F1) ?_ ?_
    · exact ⟨z3, z5, z6, rfl, rfl, rfl, bg3, bg5, hc1, (by rw [List.take_zero, segc_nil]; exact W1), n1, f1, d1_g3, d1_g5, by omega⟩
    rintro ⟨k, F1⟩ ρ w' ⟨y3, y5, y6, y17, y18, y19, bg3, bg5, hc, W1, n1, f1, d1_g3, d1_g5, hk⟩
    refine sq (rg (r (bi y19 y18 rfl) (re (sq ?_))))
    refine cp rfl (fun hlt => ?_) (fun hlt => ?_)
    · have hk' : k < xs.length := by omega
      refine sk (sq (bl (sq (rg ?_))))
      obtain ⟨c21, ad21, k21, e21, p21⟩ := (hx).place k (by omega)
      have q21 := en_at p21
      refine r (ix Tryz.underlying58 ti115 (y17.trans e21) y19 (by omega)) (r (la [.int .i64 ((xs[k]).1), .bool ((xs[k]).2)] Tryz.underlying115 rfl ti115 rfl rfl (fun m u h => Ch.cell hc (q21 m u h))) (al ti115 ?_))
      intro g8 wg8 eg8 sg8 bg8 cg8
      have ng3_g8 := ne_new bg3.lt eg8
      have ng5_g8 := ne_new bg5.lt eg8
      have d1_g8 := fresh_d W1.lt eg8
      have qg8 := le_new hc.size eg8
      replace bg3 := cg8.b0 bg3
      replace bg5 := cg8.b0 bg5
      replace W1 := W1.t cg8
      have hcg8 : Ch [] w wg8 := hc.t cg8
      replace bg8 : B wg8 g8 115 ([.int .i64 0, .bool false]) := bg8
      refine st ti115 rfl rfl bg8 rfl (Nat.le_of_ble_eq_true rfl) (one_all rfl) ?_
      intro wS3g8 sS3g8 bg8 cS3g8
      replace bg3 := cS3g8.b bg3 (nin1 ng3_g8)
      replace bg5 := cS3g8.b bg5 (nin1 ng5_g8)
      replace W1 := W1.tt cS3g8 d1_g8
      have hcS3g8 : Ch [] w wS3g8 := hcg8.own cS3g8 qg8
      replace bg8 : B wS3g8 g8 115 ([.int .i64 ((xs[k]).1), .bool ((xs[k]).2)]) := bg8
      refine re (sq (rg (r (lab [.int .i64 (s * b), .int .i64 (tabs s b), .int .i64 (logs s b), .int .i64 (logs s b + s * b), .int .i64 (s * b - 2 * b)] Tryz.underlying51 rfl ti51 y5 bg5 rfl rfl) (r (fa Tryz.underlying115 rfl ti2 rfl rfl) (r (ldb Tryz.underlying2 rfl rfl bg8 rfl) (cl go42 (inLog) (ac rfl (ac rfl an)) ?_))))))
      rintro r wi ⟨rfl, ci⟩
      replace bg3 := ci.b0 bg3
      replace bg5 := ci.b0 bg5
      replace bg8 := ci.b0 bg8
      replace W1 := W1.t ci
      have hci : Ch [] w wi := hcS3g8.t ci
      refine re ?_
      refine cp rfl (fun hin => ?_) (fun hin => ?_)
      · obtain ⟨hi1, hi2⟩ := hin
        have hb0 : 0 < b := by omega
        obtain ⟨q0, hq0⟩ : ∃ q0 : Nat, (xs[k].1 - logs s b) / b = (q0 : Int) := ⟨((xs[k].1 - logs s b) / b).toNat, by have := Int.ediv_nonneg (show 0 ≤ xs[k].1 - logs s b by omega) (show 0 ≤ b by omega); omega⟩
        have hqm : q0 < m := by
          have : (xs[k].1 - logs s b) / b < s := Int.ediv_lt_of_lt_mul hb0 (by omega)
          omega
        have hsl := segc_len (logs s b) b m (xs.take k)
        have hcl := cnt_le (L := logs s b) (b := b) (j := q0) (xs := xs.take k)
        rw [List.length_take] at hcl
        have hget : (segc (logs s b) b m (xs.take k))[q0]'(by omega) = cnt (logs s b) b q0 (xs.take k) := by simp [segc]
        have hsi := segc_in hk' hb0 hi1 hq0 hqm
        refine rg (r (mv y6) (r (fa Tryz.underlying115 rfl ti2 rfl rfl) (r (ldb Tryz.underlying2 rfl rfl bg8 rfl) (r (fa Tryz.underlying51 rfl ti2 rfl y5) (r (ldb Tryz.underlying2 rfl rfl bg5 rfl) (r (sb (((xs[k]).1) - (logs s b)) rfl rfl (by omega)) (r (fa Tryz.underlying25 rfl ti2 rfl y3) (r (ldb Tryz.underlying2 rfl rfl bg3 rfl) (r (dv ((q0 : Int)) rfl rfl (by rw [Int.tdiv_eq_ediv_of_nonneg (by omega)]; omega)) ?_)))))))))
        obtain ⟨c36, ad36, k36, e36, p36⟩ := (W1.R).place q0 (by omega)
        refine r (ix Tryz.underlying86 ti2 e36 rfl (by omega)) (r (ld Tryz.underlying2 rfl rfl p36.cell) (r (ad ((cnt (logs s b) b q0 (xs.take k) + 1)) rfl rfl (by rw [hget]; omega)) (ixs (a := (cnt (logs s b) b q0 (xs.take k) + 1)) (j := q0) Tryz.underlying86 ti2 rfl W1 rfl (by omega) (fun _ => rfl) ⟨rfl, rfl⟩ (nodup_nil n1) ?_)))
        intro _ w39 F39 s39 A39
        have hA39 := A39.hc W1 hci f1
        have tb := A39.blk W1 d1_g3 bg3
        replace d1_g3 := A39.dis d1_g3 bg3.lt
        replace bg3 := tb
        clear tb
        have tb := A39.blk W1 d1_g5 bg5
        replace d1_g5 := A39.dis d1_g5 bg5.lt
        replace bg5 := tb
        clear tb
        have tb := A39.blk W1 d1_g8 bg8
        replace d1_g8 := A39.dis d1_g8 bg8.lt
        replace bg8 := tb
        clear tb
        replace f1 := A39.low hci f1
        replace n1 := A39.nd
        replace W1 := A39.W
        refine re (be ?_)
        refine gen (fun ρ => ρ 3 = .pointer (some ⟨g3, 0, none⟩) ∧ ρ 5 = .pointer (some ⟨g5, 0, none⟩) ∧ ρ 6 = v1 ∧ ρ 17 = v ∧ ρ 18 = .int .i64 (xs.length : Int) ∧ ρ 19 = .int .i64 (k : Int) ∧ True) ⟨y3, y5, y6, y17, y18, y19, trivial⟩ ?_
        rintro ρ ⟨z3, z5, z6, z17, z18, z19, -⟩
        refine rg (r (ad ((k : Int) + 1) z19 rfl (by omega)) (r (mv rfl) (re ?_)))
        rw [hsi] at W1
        exact ag (k + 1, F39) ⟨z3, z5, z6, z17, z18, rfl, bg3, bg5, hA39, W1, n1, f1, d1_g3, d1_g5, by omega⟩ (by first | omega | (dsimp only; omega))
      · have hso := segc_out (L := logs s b) (b := b) (n := m) hk' (by omega) (fun e => hin ⟨e.1, by have h := e.2; rw [← hm] at h; exact h⟩)
        rw [← hso] at W1
        refine sk (be (rg (r (ad ((k : Int) + 1) y19 rfl (by omega)) (r (mv rfl) (re ?_)))))
        exact ag (k + 1, F1) ⟨y3, y5, y6, y17, y18, rfl, bg3, bg5, hci, W1, n1, f1, d1_g3, d1_g5, by omega⟩ (by first | omega | (dsimp only; omega))
    · obtain rfl : k = xs.length := by omega
      rw [List.take_length] at W1
      refine ex rfl (sq (rg (r (mv y6) (r (sa rfl) (re (rt ?_))))))
      exact fin1 (v := v1) Tryz.results30 rfl ⟨⟨F1, W1, n1, f1⟩, hc⟩
end Go.Proofs.YtanfhikfeabidaaGreatDoor

namespace Go.Proofs.YtanfhikfeabidaaGreatDoor
open Go Go.Eng
set_option maxRecDepth 100000
set_option maxHeartbeats 4000000
set_option linter.unusedVariables false
theorem segCounts_len (xs : List (Int × Bool)) (s b : Int) : (segCounts xs s b).length ≤ 64 := by
  unfold segCounts; split
  · rename_i h; rw [segc_len]; omega
  · simp
end Go.Proofs.YtanfhikfeabidaaGreatDoor

namespace Go.Proofs.YtanfhikfeabidaaGreatDoor
open Go Go.Eng
set_option maxRecDepth 100000
set_option maxHeartbeats 4000000
set_option linter.unusedVariables false
set_option linter.unusedSimpArgs false
/-- The number that bytes are, the highest first. -/
def unbig (xs : List Int) : Int := xs.foldl (fun v b => v * 256 + b) 0
theorem unbig_snoc (xs : List Int) (b : Int) : unbig (xs ++ [b]) = unbig xs * 256 + b := by simp [unbig]
theorem unbig_nn {xs : List Int} (h : ok8 xs) : 0 ≤ unbig xs := by
  have : ∀ (xs : List Int) (v : Int), ok8 xs → 0 ≤ v → 0 ≤ xs.foldl (fun v b => v * 256 + b) v := by
    intro xs
    induction xs with
    | nil => intro v _ h; exact h
    | cons x xs ih =>
      intro v h hv
      have := h x (by simp)
      exact ih _ (fun y hy => h y (by simp [hy])) (by show 0 ≤ v * 256 + x; omega)
  exact this xs 0 h (by omega)
theorem unbig_take {xs : List Int} {k : Nat} (hk : k < xs.length) : unbig (xs.take (k + 1)) = unbig (xs.take k) * 256 + xs[k] := by
  rw [List.take_succ_eq_append_getElem hk, unbig_snoc]
theorem ok8_take {xs : List Int} (h : ok8 xs) (k : Nat) : ok8 (xs.take k) := fun x hx => h x (List.mem_of_mem_take hx)
theorem ok8_drop {xs : List Int} (h : ok8 xs) (k : Nat) : ok8 (xs.drop k) := fun x hx => h x (List.mem_of_mem_drop hx)
theorem unbig_lt {xs : List Int} (h : ok8 xs) : unbig xs < 256 ^ xs.length := by
  have : ∀ j, j ≤ xs.length → unbig (xs.take j) < 256 ^ j := by
    intro j
    induction j with
    | zero => intro _; simp [unbig]
    | succ j ih =>
      intro hj
      have h1 := ih (by omega)
      have h4 := h xs[j] (List.getElem_mem (by omega))
      rw [unbig_take (by omega), Int.pow_succ]; omega
  have := this xs.length (Nat.le_refl _)
  rwa [List.take_length] at this
theorem unbig_2 {xs : List Int} (h : ok8 xs) (hl : xs.length = 2) : unbig xs ≤ 65535 := by
  have := unbig_lt h
  rw [hl] at this
  have e : (256 : Int) ^ 2 = 65536 := by rfl
  omega
theorem i64_w {x : Int} : ∃ q : Int, IntKind.i64.wrap x = x - q * 18446744073709551616 ∧ -9223372036854775808 ≤ IntKind.i64.wrap x ∧ IntKind.i64.wrap x ≤ 9223372036854775807 := by
  have h1 := Int.mul_ediv_add_emod x 18446744073709551616
  have h2 := Int.emod_nonneg x (show (18446744073709551616 : Int) ≠ 0 by omega)
  have h3 := Int.emod_lt_of_pos x (show (0 : Int) < 18446744073709551616 by omega)
  unfold IntKind.wrap
  simp only [IntKind.bits, IntKind.signed]
  by_cases c : x % (2 ^ 64 : Int) ≥ (2 ^ (64 - 1) : Int)
  · refine ⟨x / 18446744073709551616 + 1, ?_⟩
    simp only [Bool.true_and, decide_eq_true c, if_true]
    simp at c ⊢
    omega
  · refine ⟨x / 18446744073709551616, ?_⟩
    simp only [Bool.true_and, decide_eq_false c]
    simp at c ⊢
    omega
theorem i64_cong {x y q : Int} (h : x = y + q * 18446744073709551616) : IntKind.i64.wrap x = IntKind.i64.wrap y := by
  obtain ⟨q1, h1, _, _⟩ := i64_w (x := x)
  obtain ⟨q2, h2, _, _⟩ := i64_w (x := y)
  omega
theorem i64_id {x : Int} (h : -9223372036854775808 ≤ x ∧ x ≤ 9223372036854775807) : IntKind.i64.wrap x = x := IntWalk.i64_in _ (by omega)
theorem shl8 {v : Int} : (0 : Int) ≤ 8 ∧ IntKind.i64.wrap (IntKind.i64.wrap v * 2 ^ (min (8 : Int).toNat IntKind.i64.bits)) = IntKind.i64.wrap (v * 256) := by
  refine ⟨by omega, ?_⟩
  obtain ⟨q, hq, _, _⟩ := i64_w (x := v)
  show IntKind.i64.wrap (IntKind.i64.wrap v * 256) = _
  apply i64_cong (q := -(q * 256))
  rw [hq]; omega
theorem or_low {a c : Int} (hc : 0 ≤ c ∧ c ≤ 255) : bits .or .i64 (IntKind.i64.wrap (a * 256)) c = IntKind.i64.wrap (a * 256 + c) := by
  obtain ⟨q, hq, _, _⟩ := i64_w (x := a * 256)
  have e0 : (BitVec.ofInt 64 (IntKind.i64.wrap (a * 256))).toNat = ((a * 256) % 18446744073709551616).toNat := by
    rw [BitVec.toNat_ofInt, hq]
    congr 1
    show (a * 256 - q * 18446744073709551616) % 18446744073709551616 = _
    omega
  obtain ⟨r, hr⟩ : ∃ r : Nat, ((a * 256) % 18446744073709551616).toNat = r * 256 := by
    refine ⟨(a % 72057594037927936).toNat, ?_⟩
    omega
  obtain ⟨m, rfl⟩ : ∃ m : Nat, c = (m : Int) := ⟨c.toNat, by omega⟩
  have e1 : (BitVec.ofInt 64 (m : Int)).toNat = m := by
    rw [BitVec.toNat_ofInt]
    show ((m : Int) % 18446744073709551616).toNat = m
    omega
  unfold bits
  show IntKind.i64.wrap (((BitVec.ofInt 64 (IntKind.i64.wrap (a * 256))) ||| (BitVec.ofInt 64 (m : Int))).toNat : Int) = _
  rw [BitVec.toNat_or, e0, e1, hr]
  have e2 : r * 256 ||| m = r * 256 + m := by
    have := Nat.two_pow_add_eq_or_of_lt (i := 8) (b := m) (by omega) r
    rw [Nat.mul_comm] at this
    exact this.symm
  rw [e2]
  apply i64_cong (q := -((a * 256) / 18446744073709551616))
  omega
theorem take {w : World} {G F : List Nat} {g : Nat} {v : Value} {xs : List Int} {n : Nat} (hs : Hs w [rB g 152 [v]] F) (nd : F.Nodup) (hx : u8.R w G v xs) (hd : ∀ k, k ∈ G → k ∉ F) (lx : xs.length ≤ 1000000000) (hn : n ≤ 1000000) :
    RetP Tryz.prog 101 #[.pointer (some ⟨g, 0, none⟩), .int .i64 (n : Int)] w (fun r w' => n ≤ xs.length ∧ r = slv v 0 n 1 ∧ Hold w F w' [rB g 152 [slv v n xs.length 1]]) (fun c w' => xs.length < n ∧ c = [{ v := .iface 180 (.agg #[]), recovered := false }] ∧ Hold w F w' [rB g 152 [v]]) := by
  refine enterP Tryz.func101 rfl Tryz.ntmps101 (by rfl) (by rfl) ?_
  have H0 : Hold w F w [rB g 152 ([v])] := Hold.begin hs nd
  have b1 : B w g 152 ([v]) := Hold.blk H0 0 rfl
  refine sq (rg (r (sa rfl) (re (sq (sq (rg (r (mv rfl) (r (mv rfl) (r (nck rfl) (r (fa Tryz.underlying152 rfl ti22 rfl rfl) (r (ldb Tryz.underlying22 rfl rfl b1 rfl) (r (ln Tryz.underlying22 rfl ((hx.tt (Hold.ch H0) hd))) (r (bi rfl rfl rfl) (re ?_))))))))))))))
  refine cp rfl (fun h => ?_) (fun h => ?_)
  · refine rg (r (bd (r := []) ti180 pl180 pn rfl) (r (mif Tryz.underlying180 rfl rfl) ?_))
    refine pnc (t := 180) (v := (.agg #[])) rfl (fun a ha => ?_)
    exact FinP.panic (show _ ∧ _ ∧ _ from ⟨by omega, rfl, H0⟩) ha
  · have h' : n ≤ xs.length := by omega
    refine sk (sq (rg (r (mv rfl) (r (nck rfl) (r (fa Tryz.underlying152 rfl ti22 rfl rfl) (r (ldb Tryz.underlying22 rfl rfl b1 rfl) (r (mv rfl) (r (slrh (n) Tryz.underlying22 ti5 (hx.tt (Hold.ch H0) hd) rfl rfl (by omega)) (r (sa rfl) (re (sq ?_)))))))))))
    refine gen (fun ρ => ρ 0 = .pointer (some ⟨g, 0, none⟩) ∧ ρ 1 = .int .i64 (n : Int) ∧ ρ 4 = .slice none 0 0 ∧ ρ 5 = slv v 0 n 1 ∧ True) ⟨rfl, rfl, rfl, rfl, trivial⟩ ?_
    rintro ρ ⟨z0, z1, z4, z5, -⟩
    obtain ⟨F3, us3, R3⟩ := Kd.R.sl (hx.tt (Hold.ch H0) hd) (n) (xs.length) (by first | omega | (simp; omega)) (by first | omega | (simp; omega))
    have e3 : (xs.take xs.length).drop n = xs.drop n := by first | (rw [List.take_length, List.drop_drop]; done) | (rw [List.drop_take]; done) | (simp; done) | (rw [List.drop_take]; congr 1; omega) | (rw [List.take_length, List.drop_drop]; congr 1; omega)
    rw [e3] at R3
    obtain ⟨F4, us4, R4⟩ := Kd.R.sl (hx.tt (Hold.ch H0) hd) (n) (xs.length) (by first | omega | (simp; omega)) (by first | omega | (simp; omega))
    have e4 : (xs.take xs.length).drop n = xs.drop n := by first | (rw [List.take_length, List.drop_drop]; done) | (rw [List.drop_take]; done) | (simp; done) | (rw [List.drop_take]; congr 1; omega) | (rw [List.take_length, List.drop_drop]; congr 1; omega)
    rw [e4] at R4
    refine rg (r (mv z0) (r (mv z0) (r (nck rfl) (r (fa Tryz.underlying152 rfl ti22 rfl rfl) (r (ldb Tryz.underlying22 rfl rfl b1 rfl) (r (mv z1) (r (slrl (n) Tryz.underlying22 ti5 (hx.tt (Hold.ch H0) hd) rfl rfl (by omega)) (r (nck rfl) (r (fa Tryz.underlying152 rfl ti22 rfl rfl) (ef0 (xst (vs := [slv v n xs.length 1]) ti22 rfl rfl (cel1 (R3).oneCell) b1 rfl (Nat.le_of_ble_eq_true rfl) (ones1 (R4).oneCell)) ?_))))))))))
    rintro w2 ⟨-, b2, c2⟩
    have H1 : Hold w F w2 [rB g 152 ([slv v n xs.length 1])] := Hold.setB H0 0 rfl b2 c2 rfl
    clear H0
    clear b2 c2
    refine re (sq (rg (r (mv z5) (r (sa rfl) (re (rtp ?_))))))
    refine finp ?_
    exact fin1 (v := slv v 0 n 1) Tryz.results101 rfl ⟨by omega, rfl, H1⟩
theorem num {w : World} {G F : List Nat} {g : Nat} {v : Value} {xs : List Int} {n : Nat} (hs : Hs w [rB g 152 [v]] F) (nd : F.Nodup) (hx : u8.R w G v xs) (hd : ∀ k, k ∈ G → k ∉ F) (lx : xs.length ≤ 1000000000) (hn : n ≤ 1000000) (ok : ok8 xs) :
    RetP Tryz.prog 65 #[.pointer (some ⟨g, 0, none⟩), .int .i64 (n : Int)] w (fun r w' => n ≤ xs.length ∧ r = .int .i64 (IntKind.i64.wrap (unbig (xs.take n))) ∧ Hold w F w' [rB g 152 [slv v n xs.length 1]]) (fun c w' => xs.length < n ∧ c = [{ v := .iface 180 (.agg #[]), recovered := false }] ∧ Hold w F w' [rB g 152 [v]]) := by
  refine enterP Tryz.func65 rfl Tryz.ntmps65 (by rfl) (by rfl) ?_
  have H0 : Hold w F w [rB g 152 ([v])] := Hold.begin hs nd
  obtain ⟨F1, hF1, n1, s1, K1⟩ := Hold.front (Γ := [rB g 152 ([v])]) (Δ := []) H0
  refine sq (rg (r (sa rfl) (re (sq (rg (r (sa rfl) (re (sq (sq (rg (r (mv rfl) (r (mv rfl) (clp go101 (take hF1 n1 (hx.tt (Hold.ch H0) hd) (dis_of hx.lt hd s1) lx hn) (ac rfl (ac rfl an)) (fun c w2 a hp ha => FinP.panic (show _ ∧ _ ∧ _ from ⟨hp.1, hp.2.1, Hold.call K1 hp.2.2⟩) ha) ?_)))))))))))))
  rintro r wa ⟨hn1, rfl, Ha⟩
  have H1 : Hold w F wa [rB g 152 ([slv v n xs.length 1])] := Hold.call K1 Ha
  clear H0
  clear K1 hF1 n1 s1
  clear Ha
  obtain ⟨F2, us2, R2⟩ := Kd.R.sl (hx.tt (Hold.ch H1) hd) (0) (n) (by first | omega | (simp; omega)) (by first | omega | (simp; omega))
  have e2 : (xs.take n).drop 0 = xs.take n := by first | (rw [List.take_length, List.drop_drop]; done) | (rw [List.drop_take]; done) | (simp; done) | (rw [List.drop_take]; congr 1; omega) | (rw [List.take_length, List.drop_drop]; congr 1; omega)
  rw [e2] at R2
  refine r (ln Tryz.underlying22 rfl (R2)) (r (mv rfl) (re (bl ?_)))
  refine lp (α := Nat) (fun k ρ w' => ρ 5 = .int .i64 (IntKind.i64.wrap (unbig ((xs.take n).take k))) ∧ ρ 10 = slv v 0 n 1 ∧ ρ 11 = .int .i64 ((xs.take n).length : Int) ∧ ρ 12 = .int .i64 (k : Int) ∧ Hold w F w' [rB g 152 ([slv v n xs.length 1])] ∧ k ≤ (xs.take n).length) (fun k => (xs.take n).length - k) 0 ?_ ?_
  · exact ⟨rfl, rfl, rfl, rfl, H1, by omega⟩
  clear H1
  rintro k ρ w502 ⟨y5, y10, y11, y12, H2, hk⟩
  refine sq (rg (r (bi y12 y11 rfl) (re (sq ?_))))
  refine cp rfl (fun h => ?_) (fun h => ?_)
  · have hk' : k < (xs.take n).length := by omega
    have h4 := ok8_take ok n _ (List.getElem_mem hk')
    have h1 := unbig_take hk'
    have hl : (xs.take n).length ≤ 1000000000 := by simp; omega
    obtain ⟨F3, us3, R3⟩ := Kd.R.sl (hx.tt (Hold.ch H2) hd) (0) (n) (by first | omega | (simp; omega)) (by first | omega | (simp; omega))
    have e3 : (xs.take n).drop 0 = xs.take n := by first | (rw [List.take_length, List.drop_drop]; done) | (rw [List.drop_take]; done) | (simp; done) | (rw [List.drop_take]; congr 1; omega) | (rw [List.take_length, List.drop_drop]; congr 1; omega)
    rw [e3] at R3
    refine sk (sq (bl (sq (rg ?_))))
    obtain ⟨c14_4, ad14_4, k14_4, e14_4, p14_4⟩ := Kd.R.place R3 k (by omega)
    refine r (ix (j := k) Tryz.underlying22 ti5 (y10.trans e14_4) y12 (by omega)) (r (ld Tryz.underlying5 rfl rfl p14_4.cell) (r (sa rfl) (re (rg (r (mv y5) (r (sh (a := IntKind.i64.wrap (unbig ((xs.take n).take k))) (b := 8) (IntKind.i64.wrap (unbig ((xs.take n).take k) * 256)) rfl rfl (shl8)) (r (mv rfl) (r (cv ((xs.take n)[k]) Tryz.underlying5 Tryz.underlying2 rfl (IntWalk.i64_in _ (by omega))) (r (orl (IntKind.i64.wrap (unbig ((xs.take n).take (k + 1)))) rfl rfl (by rw [h1]; exact or_low h4)) (r (sa rfl) (re (be ?_))))))))))))
    refine gen (fun ρ => ρ 5 = .int .i64 (IntKind.i64.wrap (unbig ((xs.take n).take (k + 1)))) ∧ ρ 10 = slv v 0 n 1 ∧ ρ 11 = .int .i64 ((xs.take n).length : Int) ∧ ρ 12 = .int .i64 (k : Int) ∧ True) ⟨rfl, y10, y11, y12, trivial⟩ ?_
    rintro ρ ⟨z5, z10, z11, z12, -⟩
    refine rg (r (ad (a := (k : Int)) (b := 1) ((k : Int) + 1) z12 rfl (by omega)) (r (mv rfl) (re ?_)))
    exact ag (k + 1) ⟨z5, z10, z11, rfl, H2, by omega⟩ (by first | omega | (dsimp only; omega))
  · obtain rfl : k = (xs.take n).length := by omega
    rw [List.take_length] at y5
    refine ex rfl (sq (rg (r (mv y5) (r (sa rfl) (re (rtp ?_))))))
    refine finp ?_
    exact fin1 (v := .int .i64 (IntKind.i64.wrap (unbig (xs.take n)))) Tryz.results65 rfl ⟨hn1, rfl, H2⟩
end Go.Proofs.YtanfhikfeabidaaGreatDoor
