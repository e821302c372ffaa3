/-
  CONTRACTS 2: which segment: FreeSegment, PickVictim, of the program and of the reference. No condition.
-/
import Derived.Test.Ytgpcanjmgdmdhaa1
namespace Go.Proofs.Ytgpcanjmgdmdhaa
open Go Go.Eng
set_option maxRecDepth 100000
set_option linter.unusedVariables false
/-- The least i that p likes, or -1. -/
def fI : Option Nat → Int
  | some i => (i : Int)
  | none => -1
def firstI (p : Nat → Bool) (n : Nat) : Int := fI ((List.range n).find? p)
theorem firstI_some {p : Nat → Bool} {n k : Nat} (hk : k < n) (hp : p k = true) (hno : ∀ j, j < k → p j = false) : firstI p n = k := by
  have : (List.range n).find? p = some k := List.find?_range_eq_some.2 ⟨hp, by simpa using hk, fun j hj => by simp [hno j hj]⟩
  simp [firstI, fI, this]
theorem firstI_none {p : Nat → Bool} {n : Nat} (hno : ∀ j, j < n → p j = false) : firstI p n = -1 := by
  have : (List.range n).find? p = none := by simp; exact hno
  simp [firstI, fI, this]
def isFree (xs : List Int) (a : Int) (i : Nat) : Bool := decide (xs.getD i 0 = 0) && decide (¬ (i : Int) = a)
def fseg (xs : List Int) (a : Int) : Int := firstI (isFree xs a) xs.length
theorem getD_eq {xs : List Int} {k : Nat} (hk : k < xs.length) : xs.getD k 0 = xs[k] := by simp [List.getD, hk]
theorem spec_FreeSegment {w : World} {F : List Nat} {v : Value} {xs : List Int} {a : Int} (hx : i64.R w F v xs) (lx : xs.length ≤ 1000000000) :
    Ret Try.prog 23 #[v, .int .i64 a] w (fun r w' => r = .int .i64 (fseg xs a) ∧ Ch [] w w') := by
  refine enter Try.func23 rfl Try.ntmps23 (by rfl) (by rfl) ?_
  refine sq (rg (r (sa rfl) (re (sq (sq (rg (r (sa rfl) (re (bl ?_)))))))))
  refine lp (α := Nat) (fun k ρ w' => ρ 0 = v ∧ ρ 1 = .int .i64 a ∧ ρ 5 = .int .i64 (k : Int) ∧ k ≤ xs.length ∧ (∀ j, j < k → isFree xs a j = false) ∧ Ch [] w w') (fun k => xs.length - k) 0 ?_ ?_
  · exact ⟨rfl, rfl, rfl, ⟨by omega, fun j hj => by omega, Ch.refl _ _⟩⟩
  rintro k ρ w' ⟨y0, y1, y5, hk, hno, hc⟩
  refine sq (sq (rg (r (mv y5) (r (mv y0) (r (ln Try.underlying22 rfl (hx.t hc)) (r (bi rfl rfl rfl) (re ?_)))))))
  refine cp rfl (fun hlt => ?_) (fun hlt => ?_)
  · have hlt' : k < xs.length := by omega
    refine sk (sq (bl (sq (rg (r (mv y0) (r (mv y5) ?_))))))
    obtain ⟨c14, ad14, k14, e14, p14⟩ := (hx.t hc).place k (by omega)
    refine r (ix Try.underlying22 ti2 e14 rfl (by omega)) (r (ld Try.underlying2 rfl rfl p14.cell) (r (bi rfl rfl rfl) (r (mv rfl) ?_)))
    refine sp 17 rfl (fun h0 => ?_) (fun h0 => ?_)
    · refine gy rfl rfl rfl (r (mv y5) (gy rfl rfl rfl (r (mv y1) (gy rfl rfl rfl (r (bi rfl rfl rfl) (r (pk rfl rfl) (re ?_)))))))
      refine cpn rfl (fun h1 => ?_) (fun h1 => ?_)
      · refine sq (rg (r (mv y5) (r (sa rfl) (re (rt ?_)))))
        exact fin1 (v := .int .i64 (k : Int)) Try.results23 rfl ⟨by rw [fseg, firstI_some hlt' (by simp only [isFree, getD_eq hlt', h0, h1]; rfl) hno], hc⟩
      · refine sk (be (rg (r (mv y5) (r (ad ((k : Int) + 1) rfl rfl (by omega)) (r (sa rfl) (re ?_))))))
        refine ag (k + 1) ⟨y0, y1, rfl, by omega, fun j hj => ?_, hc⟩ (by omega)
        by_cases e : j = k
        · subst e; simp only [isFree, getD_eq hlt', h1]; simp
        · exact hno j (by omega)
    · refine gn rfl rfl rfl (gn rfl rfl rfl (gn rfl rfl rfl (r (pk rfl rfl) (re (cf rfl (sk (be (rg (r (mv y5) (r (ad ((k : Int) + 1) rfl rfl (by omega)) (r (sa rfl) (re ?_))))))))))))
      refine ag (k + 1) ⟨y0, y1, rfl, by omega, fun j hj => ?_, hc⟩ (by omega)
      by_cases e : j = k
      · subst e; simp only [isFree, getD_eq hlt', h0]; simp
      · exact hno j (by omega)
  · refine ex rfl (sq (rg (r (sa rfl) (re (rt ?_)))))
    exact fin1 (v := .int .i64 (-1)) Try.results23 rfl ⟨by rw [fseg, firstI_none (fun j hj => hno j (by omega))], hc⟩
/-! ### The program's way: the list of those that fit, then the best -/
abbrev kseg : Kd (Int × Int) := Kd.flat 2 (fun x => [.int .i64 x.1, .int .i64 x.2]) (by decide) (fun _ => rfl) (fun x u hu => by simp at hu; rcases hu with rfl | rfl <;> rfl)
theorem flat_at {α : Type} {sz : Nat} {enc : α → List Value} {hp : 0 < sz} {hl : ∀ x, (enc x).length = sz} {h1 : ∀ x u, u ∈ enc x → u.oneCell' = true} {w : World} {F : List Nat} {x : α} {ad : Addr} {cs : List Value} (h : Plc (Kd.flat sz enc hp hl h1) w F x ad cs) : ∀ m u, (enc x)[m]? = some u → w.cell? (ad.add m) = some u := by
  obtain ⟨Fi, _, ⟨rfl, rfl⟩, hc⟩ := h
  exact hc
/-- The first of the least. -/
def bst : List (Int × Int) → Int × Int
  | [] => (0, 0)
  | x :: r => r.foldl (fun o y => if y.2 < o.2 then y else o) x
theorem bst_snoc {xs : List (Int × Int)} {y : Int × Int} (h : xs ≠ []) : bst (xs ++ [y]) = if y.2 < (bst xs).2 then y else bst xs := by
  cases xs with
  | nil => exact absurd rfl h
  | cons x r =>
    simp only [bst, List.cons_append, List.foldl_append, List.foldl_cons, List.foldl_nil]
    rfl
theorem chosen1 {w : World} {x y : Int × Int} : Ret Try.prog 144 #[.agg #[.int .i64 x.1, .int .i64 x.2], .agg #[.int .i64 y.1, .int .i64 y.2]] w (fun r w' => r = .bool (decide (x.2 < y.2)) ∧ Ch [] w w') := by
  refine enter Try.func144 rfl Try.ntmps144 (by rfl) (by rfl) ?_
  refine sq (rg (bx rfl ?_))
  intro ga wga ega sga bga cga
  refine bx rfl ?_
  intro gb wgb egb sgb bgb cgb
  refine r (sa rfl) (re (sq (rg (r (fa Try.underlying166 rfl ti2 rfl rfl) ?_))))
  replace bga := cgb.b0 bga
  refine r (ldb Try.underlying2 rfl rfl bga rfl) (r (fa Try.underlying166 rfl ti2 rfl rfl) (r (ldb Try.underlying2 rfl rfl bgb rfl) (r (bi rfl rfl rfl) (r (sa rfl) (re (rt ?_))))))
  exact fin1 (v := .bool (decide (x.2 < y.2))) Try.results144 rfl ⟨rfl, cga.t cgb⟩
theorem best {w : World} {F : List Nat} {v : Value} {xs : List (Int × Int)} (hx : kseg.R w F v xs) (lx : xs.length ≤ 1000000000) :
    Ret Try.prog 143 #[v, .func (.func 144) #[] #[]] w (fun r w' => r = .tuple #[.agg #[.int .i64 (bst xs).1, .int .i64 (bst xs).2], .bool (decide (0 < xs.length))] ∧ Ch [] w w') := by
  refine enter Try.func143 rfl Try.ntmps143 (by rfl) (by rfl) ?_
  refine sq (rg (al ti166 ?_))
  intro gr wgr egr sgr bgr cgr
  refine r (sa rfl) (re (sq (rg (al ti166 ?_))))
  intro go wgo ego sgo bgo cgo
  refine re (sq (sq (rg (r (mv rfl) (r (ln Try.underlying164 rfl (hx.t (cgr.t cgo))) (r (mv rfl) (re (bl ?_))))))))
  replace bgr := cgo.b0 bgr
  have h64 : gr ≠ go := by omega
  refine lp (α := Nat) (fun k ρ w' => ρ 0 = v ∧ ρ 1 = .func (.func 144) #[] #[] ∧ ρ 4 = .pointer (some ⟨gr, 0, none⟩) ∧ ρ 6 = .pointer (some ⟨go, 0, none⟩) ∧ ρ 9 = v ∧ ρ 10 = .int .i64 (xs.length : Int) ∧ ρ 11 = .int .i64 (k : Int) ∧ k ≤ xs.length ∧ B w' gr 166 [.int .i64 0, .int .i64 0] ∧ B w' go 166 [.int .i64 (bst (xs.take k)).1, .int .i64 (bst (xs.take k)).2] ∧ Ch [] w w' ∧ go < w'.heap.size) (fun k => xs.length - k) 0 ?_ ?_
  · exact ⟨rfl, rfl, rfl, rfl, rfl, rfl, rfl, ⟨by omega, bgr, bgo, cgr.t cgo, bgo.lt⟩⟩
  rintro k ρ w' ⟨y0, y1, y4, y6, y9, y10, y11, hk, br, bo, hc, hs⟩
  refine sq (rg (r (bi y11 y10 rfl) (re (sq ?_))))
  refine cp rfl (fun hlt => ?_) (fun hlt => ?_)
  · have hlt' : k < xs.length := by omega
    refine sk (sq (bl (sq (rg (r (mv y11) ?_)))))
    obtain ⟨c14, ad14, k14, e14, p14⟩ := (hx.t hc).place k (by omega)
    refine r (ix Try.underlying164 ti166 (y9.trans e14) y11 (by omega)) ?_
    have hp := flat_at p14
    refine r (la [.int .i64 xs[k].1, .int .i64 xs[k].2] Try.underlying166 rfl ti166 rfl rfl hp) (al ti166 ?_)
    intro g8 wg8 eg8 sg8 bg8 cg8
    refine r (sa rfl) ?_
    replace br := cg8.b0 br
    replace bo := cg8.b0 bo
    refine st ti166 rfl rfl bg8 rfl (Nat.le_of_ble_eq_true rfl) (one_all rfl) ?_
    intro ws ss bs cs
    refine re (sq (rg (r (mv rfl) (r (bi rfl rfl rfl) (r (mv rfl) ?_)))))
    replace bs : B ws g8 166 [.int .i64 xs[k].1, .int .i64 xs[k].2] := bs
    replace br := cs.b br (by simp; omega)
    replace bo := cs.b bo (by simp; omega)
    have hc2 : Ch [] w ws := (hc.t cg8).trans cs (fun j hj hl => by have := hc.size; simp at hj; omega)
    refine sp 18 rfl (fun h0 => ?_) (fun h0 => ?_)
    · refine gn rfl rfl rfl (gn rfl rfl rfl (gn rfl rfl rfl (gn rfl rfl rfl (r (pk rfl rfl) (re (ct rfl (rg ?_)))))))
      refine r (lab _ Try.underlying166 rfl ti166 rfl bs rfl rfl) (st ti166 y6 rfl bo rfl (Nat.le_of_ble_eq_true rfl) (one_all rfl) ?_)
      intro wu su bu cu
      refine re (be (rg ?_))
      replace br := cu.b br (by simp; omega)
      have hc3 : Ch [] w wu := hc2.trans cu (fun j hj hl => by simp at hj; omega)
      refine r (ad ((k : Int) + 1) y11 rfl (by omega)) (r (mv rfl) (re ?_))
      have hv : bst (xs.take (k + 1)) = xs[k] := by
        obtain rfl : k = 0 := by omega
        rw [List.take_succ_eq_append_getElem hlt']; simp [bst]
      refine ag (k + 1) ⟨y0, y1, y4, y6, y9, y10, rfl, by omega, br, by rw [hv]; exact bu, hc3, bu.lt⟩ (by omega)
    · refine gy rfl rfl rfl (r (mv y1) (gy rfl rfl rfl (r (lab [.int .i64 xs[k].1, .int .i64 xs[k].2] Try.underlying166 rfl ti166 rfl bs rfl rfl) (gy rfl rfl rfl (r (lab [.int .i64 (bst (xs.take k)).1, .int .i64 (bst (xs.take k)).2] Try.underlying166 rfl ti166 y6 bo rfl rfl) (gy rfl rfl rfl (clv rfl go144 (ac rfl (ac rfl an)) (chosen1 (x := xs[k]) (y := bst (xs.take k))) ?_)))))))
      rintro r wc ⟨rfl, cc⟩
      refine r (pk rfl rfl) (re ?_)
      replace bs := cc.b0 bs
      replace bo := cc.b0 bo
      replace br := cc.b0 br
      have hc4 := hc2.t cc
      have hne : xs.take k ≠ [] := by 
        intro e; have h := List.length_take (i := k) (l := xs)
        rw [e, List.length_nil] at h; omega
      have hb := bst_snoc (xs := xs.take k) (y := xs[k]) hne
      rw [← List.take_succ_eq_append_getElem hlt'] at hb
      refine cp rfl (fun h1 => ?_) (fun h1 => ?_)
      · refine rg (r (lab _ Try.underlying166 rfl ti166 rfl bs rfl rfl) (st ti166 y6 rfl bo rfl (Nat.le_of_ble_eq_true rfl) (one_all rfl) ?_))
        intro wu su bu cu
        refine re (be (rg ?_))
        replace br := cu.b br (by simp; omega)
        have hc3 : Ch [] w wu := hc4.trans cu (fun j hj hl => by simp at hj; omega)
        refine r (ad ((k : Int) + 1) y11 rfl (by omega)) (r (mv rfl) (re ?_))
        have hv : bst (xs.take (k + 1)) = xs[k] := by rw [hb, if_pos h1]
        refine ag (k + 1) ⟨y0, y1, y4, y6, y9, y10, rfl, by omega, br, by rw [hv]; exact bu, hc3, bu.lt⟩ (by omega)
      · refine sk (be (rg (r (ad ((k : Int) + 1) y11 rfl (by omega)) (r (mv rfl) (re ?_)))))
        rw [if_neg h1] at hb
        refine ag (k + 1) ⟨y0, y1, y4, y6, y9, y10, rfl, by omega, br, by rw [hb]; exact bo, hc4, bo.lt⟩ (by omega)
  · obtain rfl : k = xs.length := by omega
    rw [List.take_length] at bo
    refine ex rfl (sq (rg (r (lab _ Try.underlying166 rfl ti166 y6 bo rfl rfl) (r (mv y0) (r (ln Try.underlying164 rfl (hx.t hc)) (r (bi rfl rfl rfl) (st ti166 y4 rfl br rfl (Nat.le_of_ble_eq_true rfl) (one_all rfl) ?_)))))))
    intro wu su bu cu
    refine r (sa rfl) (re (rt ?_))
    replace br := bu
    have hcu : Ch [] w wu := hc.trans cu (fun j hj hl => by simp at hj; omega)
    exact finct (v' := .bool (decide ((0 : Int) < (xs.length : Int)))) Try.results143 Try.underlying166 rfl ti166 y4 br rfl rfl ⟨by rw [show (decide ((0 : Int) < (xs.length : Int))) = decide (0 < xs.length) from by simp]; rfl, hcu⟩
/-- Those that fit, of the first k. -/
def segs (p : Int → Bool) (a : Int) (xs : List Int) (k : Nat) : List (Int × Int) := ((List.range k).filter (fun i : Nat => decide (¬ (i : Int) = a) && p (xs.getD i 0))).map (fun i : Nat => ((i : Int), xs.getD i 0))
theorem segs_succ {p : Int → Bool} {a : Int} {xs : List Int} {k : Nat} (hk : k < xs.length) : segs p a xs (k + 1) = segs p a xs k ++ (if (decide (¬ (k : Int) = a) && p xs[k]) = true then [((k : Int), xs[k])] else []) := by
  simp only [segs, List.range_succ, List.filter_append, List.map_append, List.filter_cons, List.filter_nil, getD_eq hk]
  have := getD_eq hk
  split <;> simp only [List.map_cons, List.map_nil, this]
theorem segs_len (p : Int → Bool) (a : Int) (xs : List Int) (k : Nat) : (segs p a xs k).length ≤ k := by
  have := List.length_filter_le (fun i : Nat => decide (¬ (i : Int) = a) && p (xs.getD i 0)) (List.range k)
  simpa [segs] using this
/-- The least's number, or -1. -/
def numb (l : List (Int × Int)) : Int := if 0 < l.length then (bst l).1 else -1
theorem chosen {w : World} {F : List Nat} {v : Value} {xs : List Int} {a : Int} {fid : FuncId} {cap : List Value} {p : Int → Bool} (hx : i64.R w F v xs) (lx : xs.length ≤ 1000000000)
    (hg : Goes Try.prog fid) (hfit : ∀ c w', Ch [] w w' → Ret Try.prog fid ([Value.int .i64 c] ++ cap).toArray w' (fun r w2 => r = .bool (p c) ∧ Ch [] w' w2)) :
    Ret Try.prog 90 #[v, .int .i64 a, .func (.func fid) #[] cap.toArray] w (fun r w' => r = .int .i64 (numb (segs p a xs xs.length)) ∧ Ch [] w w') := by
  refine enter Try.func90 rfl Try.ntmps90 (by rfl) (by rfl) ?_
  refine sq (rg (r (sa rfl) (re (sq (rg (r (sa rfl) (re (sq (sq (rg (r (mv rfl) (r (ln Try.underlying22 rfl (hx)) (r (mv rfl) (re (bl ?_)))))))))))))))
  refine lp (α := Nat × List Nat × Value) (fun (k, G, L) ρ w' => ρ 12 = v ∧ ρ 1 = .int .i64 a ∧ ρ 2 = .func (.func fid) #[] cap.toArray ∧ ρ 7 = L ∧ ρ 13 = .int .i64 (xs.length : Int) ∧ ρ 14 = .int .i64 (k : Int) ∧ k ≤ xs.length ∧ kseg.W 166 w' G L (segs p a xs k) ∧ G.Nodup ∧ (∀ j, j ∈ G → w.heap.size ≤ j) ∧ Ch [] w w') (fun (k, G, L) => xs.length - k) (0, [], .slice none 0 0) ?_ ?_
  · exact ⟨rfl, rfl, rfl, rfl, rfl, rfl, ⟨by omega, Kd.nil_W _ _ _, by simp, by simp, Ch.refl _ _⟩⟩
  rintro ⟨k, G, L⟩ ρ w' ⟨y12, y1, y2, y7, y13, y14, hk, hW, hn, hf, hc⟩
  refine sq (rg (r (bi y14 y13 rfl) (re (sq ?_))))
  refine cp rfl (fun hlt => ?_) (fun hlt => ?_)
  · have hlt' : k < xs.length := by omega
    have hs := segs_succ (p := p) (a := a) hlt'
    have hl := segs_len p a xs k
    refine sk (sq (bl (sq (rg (r (mv y14) ?_)))))
    obtain ⟨c17, ad17, k17, e17, p17⟩ := (hx.t hc).place k (by omega)
    refine r (ix Try.underlying22 ti2 (y12.trans e17) y14 (by omega)) (r (ld Try.underlying2 rfl rfl p17.cell) (r (sa rfl) (r (sa rfl) (re (sq (rg (r (mv rfl) (r (mv y1) (r (bi rfl rfl rfl) (r (mv rfl) ?_))))))))))
    refine spn 22 rfl (fun h0 => ?_) (fun h0 => ?_)
    · refine gy rfl rfl rfl (r (mv y2) (gy rfl rfl rfl (r (mv rfl) (gy rfl rfl rfl (clv rfl hg (ac rfl an) (hfit xs[k] _ hc) ?_)))))
      rintro r wc ⟨rfl, cc⟩
      refine r (pk rfl rfl) (re ?_)
      refine cd rfl (fun h1 => ?_) (fun h1 => ?_)
      · rw [if_pos (by rw [decide_eq_true h0, h1]; rfl)] at hs
        refine rg (r (mv y7) (r (mv rfl) (r (mv rfl) (r (bd (r := _) ti166 pl166 (pc rfl (cel1 rfl) (pc rfl (cel1 rfl) pn)) rfl) (ap1 Try.underlying164 ti166 rfl (fun _ => rfl) rfl (hW.t cc) (show kseg.O _ [] ((k : Int), xs[k]) _ from ⟨rfl, rfl⟩) (by simpa using hn) (by omega) rfl ?_)))))
        intro _ vs ws Fs As
        refine r (sa rfl) (re (be (rg ?_)))
        refine r (ad ((k : Int) + 1) y14 rfl (by omega)) (r (mv rfl) (re ?_))
        refine ag (k + 1, Fs, vs) ⟨y12, y1, y2, rfl, y13, rfl, by omega, hs ▸ As.W, As.nd, fun j hj => (As.sub j hj).elim (hf j) (fun h => h.elim (fun h => by cases h) (fun h => Nat.le_trans (hc.t cc).size h)), (hc.t cc).trans As.ch (fun j hj hlt => absurd (hf j (W_own hW j hj)) (by omega))⟩ (by dsimp only; omega)
      · rw [if_neg (by rw [h1]; simp), List.append_nil] at hs
        refine sk (be (rg ?_))
        refine r (ad ((k : Int) + 1) y14 rfl (by omega)) (r (mv rfl) (re ?_))
        refine ag (k + 1, G, L) ⟨y12, y1, y2, y7, y13, rfl, by omega, hs ▸ hW.t cc, hn, hf, hc.t cc⟩ (by dsimp only; omega)
    · refine gn rfl rfl rfl (gn rfl rfl rfl (gn rfl rfl rfl (r (pk rfl rfl) (re (cf rfl (sk (be (rg ?_))))))))
      rw [if_neg (by simp [h0]), List.append_nil] at hs
      refine r (ad ((k : Int) + 1) y14 rfl (by omega)) (r (mv rfl) (re ?_))
      refine ag (k + 1, G, L) ⟨y12, y1, y2, y7, y13, rfl, by omega, hs ▸ hW, hn, hf, hc⟩ (by dsimp only; omega)
  · obtain rfl : k = xs.length := by omega
    have hl := segs_len p a xs xs.length
    refine ex rfl (sq (rg (r (mv y7) (cl go143 (best hW.R (by omega)) (ac rfl (ac rfl an)) ?_))))
    rintro r wb ⟨rfl, cb⟩
    refine r (mv rfl) (r (xt rfl rfl) (r (xt rfl rfl) (al ti166 ?_)))
    intro go wgo ego sgo bgo cgo
    refine st ti166 rfl rfl bgo rfl (Nat.le_of_ble_eq_true rfl) (one_all rfl) ?_
    intro ws ss bs cs
    refine r (sa rfl) (re (sq (sq (rg (r (mv rfl) (r (nt rfl) (re ?_)))))))
    have hcs : Ch [] w ws := ((hc.t cb).t cgo).trans cs (fun j hj hl => by have := (hc.t cb).size; simp at hj; omega)
    replace bs : B ws go 166 [.int .i64 (bst (segs p a xs xs.length)).1, .int .i64 (bst (segs p a xs xs.length)).2] := bs
    refine cd rfl (fun h1 => ?_) (fun h1 => ?_)
    · refine sq (rg (r (sa rfl) (re (rt ?_))))
      exact fin1 (v := .int .i64 (-1)) Try.results90 rfl ⟨by rw [numb, if_neg (by simpa using h1)], hcs⟩
    · refine sk (sq (rg (r (fa Try.underlying166 rfl ti2 rfl rfl) (r (ldb Try.underlying2 rfl rfl bs rfl) (r (sa rfl) (re (rt ?_)))))))
      exact fin1 (v := .int .i64 (bst (segs p a xs xs.length)).1) Try.results90 rfl ⟨by rw [numb, if_pos (by simpa using h1)], hcs⟩
theorem free1 {w : World} {c : Int} : Ret Try.prog 91 #[.int .i64 c] w (fun r w' => r = .bool (decide (c = 0)) ∧ Ch [] w w') := by
  refine enter Try.func91 rfl Try.ntmps91 (by rfl) (by rfl) ?_
  refine sq (rg (r (sa rfl) (re (sq (rg (r (mv rfl) (r (bi rfl rfl rfl) (r (sa rfl) (re (rt ?_))))))))))
  exact fin1 (v := .bool (decide (c = 0))) Try.results91 rfl ⟨rfl, Ch.refl _ _⟩
theorem impl_FreeSegment {w : World} {F : List Nat} {v : Value} {xs : List Int} {a : Int} (hx : i64.R w F v xs) (lx : xs.length ≤ 1000000000) :
    Ret Try.prog 25 #[v, .int .i64 a] w (fun r w' => r = .int .i64 (numb (segs (fun c => decide (c = 0)) a xs xs.length)) ∧ Ch [] w w') := by
  refine enter Try.func25 rfl Try.ntmps25 (by rfl) (by rfl) ?_
  refine sq (rg (r (sa rfl) (re (sq (rg (r (mv rfl) (r (mv rfl) (cl go90 (chosen (cap := []) (p := fun c => decide (c = 0)) hx lx go91 (fun c w' hw => free1)) (ac rfl (ac rfl (ac rfl an))) ?_))))))))
  rintro r wc ⟨rfl, cc⟩
  refine r (sa rfl) (re (rt ?_))
  exact fin1 (v := .int .i64 (numb (segs (fun c => decide (c = 0)) a xs xs.length))) Try.results25 rfl ⟨rfl, cc⟩
def inside (m : Int) (c : Int) : Bool := decide (1 ≤ c) && decide (c < m)
theorem pick1 {w : World} {c m : Int} {g : Nat} (hb : B w g 2 [.int .i64 m]) : Ret Try.prog 92 #[.int .i64 c, .pointer (some ⟨g, 0, none⟩)] w (fun r w' => r = .bool (inside m c) ∧ Ch [] w w') := by
  refine enter Try.func92 rfl Try.ntmps92 (by rfl) (by rfl) ?_
  refine sq (rg (r (sa rfl) (re (sq (rg (r (mv rfl) (r (bi rfl rfl rfl) (r (mv rfl) ?_))))))))
  refine sp 6 rfl (fun h => ?_) (fun h => ?_)
  · refine gy rfl rfl rfl (r (mv rfl) (gy rfl rfl rfl (r (ldb Try.underlying2 rfl rfl hb rfl) (gy rfl rfl rfl (r (bi rfl rfl rfl) (r (pk rfl rfl) (r (sa rfl) (re (rt ?_)))))))))
    exact fin1 (v := .bool (decide (c < m))) Try.results92 rfl ⟨by rw [inside, decide_eq_true h]; rfl, Ch.refl _ _⟩
  · refine gn rfl rfl rfl (gn rfl rfl rfl (gn rfl rfl rfl (r (pk rfl rfl) (r (sa rfl) (re (rt ?_))))))
    exact fin1 (v := .bool false) Try.results92 rfl ⟨by rw [inside, decide_eq_false h]; rfl, Ch.refl _ _⟩
theorem impl_PickVictim {w : World} {F : List Nat} {v : Value} {xs : List Int} {a m : Int} (hx : i64.R w F v xs) (lx : xs.length ≤ 1000000000) :
    Ret Try.prog 28 #[v, .int .i64 a, .int .i64 m] w (fun r w' => r = .int .i64 (numb (segs (inside m) a xs xs.length)) ∧ Ch [] w w') := by
  refine enter Try.func28 rfl Try.ntmps28 (by rfl) (by rfl) ?_
  refine sq (rg (bx rfl ?_))
  intro g wg eg sg bg cg
  refine r (sa rfl) (re (sq (rg (r (mv rfl) (r (mv rfl) (r (mf an (ac rfl an)) (cl go90 (chosen (cap := [.pointer (some ⟨g, 0, none⟩)]) (p := inside m) (hx.t cg) lx go92 (fun c w' hw => pick1 (hw.b0 bg))) (ac rfl (ac rfl (ac rfl an))) ?_)))))))
  rintro r wc ⟨rfl, cc⟩
  refine r (sa rfl) (re (rt ?_))
  exact fin1 (v := .int .i64 (numb (segs (inside m) a xs xs.length))) Try.results28 rfl ⟨rfl, cg.t cc⟩
