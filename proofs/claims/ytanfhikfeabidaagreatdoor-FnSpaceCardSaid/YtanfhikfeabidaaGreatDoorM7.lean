/-
  SEVERAL TEXTS OF MY OWN IN ONE: 104, 25, 105, 106, 107, 108. No condition.
-/
import Derived.Test.YtanfhikfeabidaaGreatDoorM6
namespace Go.Eng
set_option linter.unusedVariables false
set_option linter.unusedSimpArgs false
section
variable {P : Program} {ρ : Fr} {w : World} {d : Option Nat} {ty : TypeId} {pos : String} {af : Array Edge}
/-- A library function without a body, called without arguments; with one that it looks at. -/
theorem xt0 {f : FuncId} {u : Value} {ts : Array TypeId} (hc : ∀ w : World, (callFunc f #[]).run P w = .ok (.value u) w) : Rn P ρ ⟨d, .call ⟨.value (.func f), #[], ts⟩, ty, pos, af, none⟩ w u :=
  ⟨rfl, fun w' _ => by
    have e : execOp (ev ρ) ⟨d, .call ⟨.value (.func f), #[], ts⟩, ty, pos, af, none⟩ = callFunc f #[] := by simp [execOp, resolve, Deferred.ofValue, invoke, show ev ρ (.func f) = .func (.func f) #[] #[] from rfl]
    rw [e]; exact hc w'⟩
theorem xtB {f : FuncId} {x : Operand} {a : Addr} {u v : Value} {ts : Array TypeId} {g : Nat} {T : TypeId} {cs : List Value} (hc : ∀ w : World, w.cell? a = some v → (callFunc f #[.pointer (some a)]).run P w = .ok (.value u) w) (hx : ev ρ x = .pointer (some a)) (hB : B w g T cs) (ha : a = ⟨g, a.off, none⟩) (hv : cs[a.off]? = some v) : Rn P ρ ⟨d, .call ⟨.value (.func f), #[x], ts⟩, ty, pos, af, none⟩ w u :=
  ⟨rfl, fun w' c => by
    have hcell : w'.cell? a = some v := by rw [ha]; exact ((c.b0 hB).cell a.off).trans hv
    have h := hc w' hcell
    have e : execOp (ev ρ) ⟨d, .call ⟨.value (.func f), #[x], ts⟩, ty, pos, af, none⟩ = callFunc f #[ev ρ x] := by simp [execOp, resolve, Deferred.ofValue, invoke, show ev ρ (.func f) = .func (.func f) #[] #[] from rfl]
    rw [e, hx]; exact h⟩
end
end Go.Eng
namespace Go.Proofs.YtanfhikfeabidaaGreatDoor
open Go Go.Eng
set_option maxRecDepth 100000
set_option maxHeartbeats 4000000
set_option linter.unusedVariables false
set_option linter.unusedSimpArgs false
theorem raceDis (w : World) : (callFunc 69 #[]).run Tryz.prog w = .ok (.value (.tuple #[])) w := by
  rw [run_callFunc_extern Tryz.func69 (by kernel_rfl) (by kernel_rfl) (by kernel_rfl) (e := fun _ => do mark .disable; pure Extern.Race.none_) (by kernel_rfl)]
  rfl
theorem raceEn (w : World) : (callFunc 70 #[]).run Tryz.prog w = .ok (.value (.tuple #[])) w := by
  rw [run_callFunc_extern Tryz.func70 (by kernel_rfl) (by kernel_rfl) (by kernel_rfl) (e := fun _ => do mark .enable; pure Extern.Race.none_) (by kernel_rfl)]
  rfl
theorem raceAcq (a : Addr) (w : World) : (callFunc 83 #[.pointer (some a)]).run Tryz.prog w = .ok (.value (.tuple #[])) w := by
  rw [run_callFunc_extern Tryz.func83 (by kernel_rfl) (by kernel_rfl) (by kernel_rfl) (e := Extern.Race.marked .acquire) (by kernel_rfl)]
  rfl
theorem atLoad (a : Addr) (v : Int) (w : World) (h : w.cell? a = some (.int .u64 v)) : (callFunc 104 #[.pointer (some a)]).run Tryz.prog w = .ok (.value (.int .u64 v)) w := by
  rw [run_callFunc_extern Tryz.func104 (by kernel_rfl) (by kernel_rfl) (by kernel_rfl) (e := Extern.Atomic.loadT (.int .u64)) (by kernel_rfl)]
  obtain ⟨K, hK, hK2⟩ : ∃ K, Extern.Atomic.read (.int .u64) a = (load a .atomic >>= K) ∧ K (.int .u64 v) = pure (.int .u64 v) := ⟨_, rfl, if_pos rfl⟩
  have h1 : (load a .atomic).run Tryz.prog w = .ok (.int .u64 v) w := by simp [load, Sem.run, h]
  rw [show Extern.Atomic.loadT (.int .u64) #[.pointer (some a)] = (asAddr (.pointer (some a)) >>= fun a => Extern.Atomic.read (.int .u64) a) from rfl]
  simp only [Sem.run_bind, show (asAddr (.pointer (some a))) = pure a from rfl, Sem.run_pure, Result.andThen_ok, hK, h1, hK2]
theorem atomic_Load {w : World} {g : Nat} (hB : B w g 126 [.int .u64 0, .int .u32 0]) : Ret Tryz.prog 77 #[.pointer (some ⟨g, 0, none⟩)] w (fun r w' => r = .int .u64 0 ∧ Ch [] w w') := by
  refine enter Tryz.func77 rfl Tryz.ntmps77 (by rfl) (by rfl) ?_
  have H0 : Hold w [] w [] := Hold.start w
  refine sq (rg (r (sa rfl) (re (sq (rg (r (mv rfl) (r (nck rfl) (r (fa Tryz.underlying123 rfl ti121 rfl rfl) (r (xtB (a := ⟨g, 0, none⟩) (v := .int .u64 0) (atLoad ⟨g, 0, none⟩ 0) rfl ((Hold.ch H0).b0 hB) rfl rfl) (r (sa rfl) (re (rt ?_))))))))))))
  exact fin1 (v := .int .u64 0) Tryz.results77 rfl ⟨rfl, Hold.ch H0⟩
theorem group_Wait {w : World} {g : Nat} (hB : B w g 126 [.int .u64 0, .int .u32 0]) : Ret Tryz.prog 47 #[.pointer (some ⟨g, 0, none⟩)] w (fun r w' => Ch [] w w') := by
  refine enter Tryz.func47 rfl Tryz.ntmps47 (by rfl) (by rfl) ?_
  have H0 : Hold w [] w [] := Hold.start w
  refine sq (ct rfl (rg (r (xt0 raceDis) (re (bl ?_)))))
  refine lp (α := Unit) (fun _u ρ w' => ρ 0 = .pointer (some ⟨g, 0, none⟩) ∧ Hold w [] w' [] ∧ True) (fun _u => 0) () ?_ ?_
  · exact ⟨rfl, H0, trivial⟩
  clear H0
  rintro _u ρ w501 ⟨y0, H1, -⟩
  refine bl (sq (rg (r (mv y0) (r (nck rfl) (r (fa Tryz.underlying126 rfl ti123 rfl rfl) (cl go77 (atomic_Load ((Hold.ch H1).b0 hB)) (ac rfl an) ?_))))))
  rintro r wl ⟨rfl, cl9⟩
  have H2 : Hold w [] wl [] := Hold.t H1 cl9
  clear H1
  clear cl9
  refine r (sa rfl) (re (sq (rg (r (mv rfl) (r (sr (a := 0) (b := 32) (0) rfl rfl (⟨by decide, by decide⟩)) (r (cv (0) Tryz.underlying121 Tryz.underlying21 rfl rfl) (r (sa rfl) (re (sq (rg (r (mv rfl) (r (andl 0 rfl rfl rfl) (r (cv (0) Tryz.underlying121 Tryz.underlying124 rfl rfl) (r (sa rfl) (re (sq (sq ?_)))))))))))))))))
  refine gen (fun ρ => ρ 0 = .pointer (some ⟨g, 0, none⟩) ∧ ρ 2 = .int .u64 0 ∧ ρ 3 = .int .i32 0 ∧ ρ 4 = .int .u32 0 ∧ True) ⟨y0, rfl, rfl, rfl, trivial⟩ ?_
  rintro ρ ⟨z0, z2, z3, z4, -⟩
  refine rg (r (mv z3) (r (Rn.cast (v' := .bool true) (bi rfl rfl rfl) rfl) (re (ct rfl (sq (ct rfl (sq (rg (r (xt0 raceEn) (re (rg (r (mv z0) (r (cvu Tryz.underlying153 Tryz.underlying155 ti126 ((Hold.ch H2).b0 hB) rfl (by decide) (Nat.zero_lt_succ _)) (r (xtn (raceAcq _) rfl) (re (sq (sq (rg (r (mv z4) (r (Rn.cast (v' := .bool true) (bi rfl rfl rfl) rfl) (r (mv rfl) (gy rfl rfl rfl (r (mv z2) (gy rfl rfl rfl (r (andl 0 rfl rfl rfl) (gy rfl rfl rfl (r (Rn.cast (v' := .bool false) (bi rfl rfl rfl) rfl) (r (pk rfl rfl) (r (mv rfl) (gn rfl rfl rfl (gn rfl rfl rfl (r (pk rfl rfl) (re (cf rfl (sk (rt ?_))))))))))))))))))))))))))))))))))))
  exact fin0 Tryz.results47 (Hold.ch H2)
theorem insSort {w : World} : Ret Tryz.prog 112 #[.slice none 0 0, .int .i64 0, .int .i64 0, .func (.func 49) #[] #[]] w (fun r w' => Ch [] w w') := by
  refine enter Tryz.func112 rfl Tryz.ntmps112 (by rfl) (by rfl) ?_
  have H0 : Hold w [] w [] := Hold.start w
  refine sq (rg (r (mv rfl) (r (ad (a := 0) (b := 1) (1) rfl rfl (by omega)) (r (sa rfl) (re (bl ?_))))))
  refine lp (α := Unit) (fun _u ρ w' => ρ 0 = .slice none 0 0 ∧ ρ 1 = .int .i64 0 ∧ ρ 2 = .int .i64 0 ∧ ρ 3 = .func (.func 49) #[] #[] ∧ ρ 10 = .int .i64 0 ∧ ρ 11 = .int .i64 1 ∧ ρ 8 = .int .i64 1 ∧ Hold w [] w' [] ∧ True) (fun _u => 0) () ?_ ?_
  · exact ⟨rfl, rfl, rfl, rfl, rfl, rfl, rfl, H0, trivial⟩
  clear H0
  rintro _u ρ w501 ⟨y0, y1, y2, y3, y10, y11, y8, H1, -⟩
  refine sq (sq (rg (r (mv y8) (r (mv y2) (r (bi rfl rfl rfl) (re ?_))))))
  refine cf ((rfl : _ = Value.bool (decide ((1 : Int) < 0))).trans (congrArg Value.bool (show (decide ((1 : Int) < 0)) = false from (decide_eq_false (by omega))))) ?_
  refine ex rfl ?_
  exact fin0 Tryz.results112 (Hold.ch H1)
theorem pdq {w : World} {c : Int} : Ret Tryz.prog 88 #[.slice none 0 0, .int .i64 0, .int .i64 0, .int .i64 c, .func (.func 49) #[] #[]] w (fun r w' => Ch [] w w') := by
  refine enter Tryz.func88 rfl Tryz.ntmps88 (by rfl) (by rfl) ?_
  have H0 : Hold w [] w [] := Hold.start w
  refine sq (rg (r (sa rfl) (re (sq (rg (r (sa rfl) (re (bl ?_))))))))
  refine lp (α := Unit) (fun _u ρ w' => ρ 0 = .slice none 0 0 ∧ ρ 1 = .int .i64 0 ∧ ρ 2 = .int .i64 0 ∧ ρ 3 = .int .i64 c ∧ ρ 4 = .func (.func 49) #[] #[] ∧ ρ 10 = .bool true ∧ ρ 11 = .bool true ∧ Hold w [] w' [] ∧ True) (fun _u => 0) () ?_ ?_
  · exact ⟨rfl, rfl, rfl, rfl, rfl, rfl, rfl, H0, trivial⟩
  clear H0
  rintro _u ρ w501 ⟨y0, y1, y2, y3, y4, y10, y11, H1, -⟩
  refine bl (sq (rg (r (mv y2) (r (mv y1) (r (sb (a := 0) (b := 0) (0) rfl rfl (by omega)) (r (sa rfl) (re (sq (sq (rg (r (mv rfl) (r (bi rfl rfl rfl) (re ?_)))))))))))))
  refine ct ((rfl : _ = Value.bool (decide ((0 : Int) ≤ 12))).trans (congrArg Value.bool (show (decide ((0 : Int) ≤ 12)) = true from (decide_eq_true (by omega))))) ?_
  refine sq (rg (r (mv y0) (r (mv y1) (r (mv y2) (r (mv y4) (cl go112 (insSort) (ac rfl (ac rfl (ac rfl (ac rfl an)))) ?_))))))
  rintro _ wi ci
  have H2 : Hold w [] wi [] := Hold.t H1 ci
  clear H1
  clear ci
  refine re (rt ?_)
  exact fin0 Tryz.results88 (Hold.ch H2)
theorem bits_Len64 {w : World} : Ret Tryz.prog 121 #[.int .u64 0] w (fun r w' => r = .int .i64 0 ∧ Ch [] w w') := by
  refine enter Tryz.func121 rfl Tryz.ntmps121 (by rfl) (by rfl) ?_
  have H0 : Hold w [] w [] := Hold.start w
  refine sq (rg (r (sa rfl) (re (sq (sq (rg (r (mv rfl) (r (bi rfl rfl rfl) (re ?_)))))))))
  refine cf ((rfl : _ = Value.bool (decide (4294967296 ≤ (0 : Int)))).trans (congrArg Value.bool (show (decide (4294967296 ≤ (0 : Int))) = false from (decide_eq_false (by omega))))) ?_
  refine sk (sq (sq (rg (r (mv rfl) (r (bi rfl rfl rfl) (re ?_))))))
  refine cf ((rfl : _ = Value.bool (decide (65536 ≤ (0 : Int)))).trans (congrArg Value.bool (show (decide (65536 ≤ (0 : Int))) = false from (decide_eq_false (by omega))))) ?_
  refine sk (sq (sq (rg (r (mv rfl) (r (bi rfl rfl rfl) (re ?_))))))
  refine cf ((rfl : _ = Value.bool (decide (256 ≤ (0 : Int)))).trans (congrArg Value.bool (show (decide (256 ≤ (0 : Int))) = false from (decide_eq_false (by omega))))) ?_
  refine sk (sq (rg (r (mv rfl) (r (mv rfl) (r (cv (0) Tryz.underlying121 Tryz.underlying5 rfl rfl) (r (Rn.cast (v' := .int .u8 0) (six (j := 0) Tryz.underlying9 rfl rfl (Nat.le_of_ble_eq_true (by kernel_rfl))) (by kernel_rfl)) (r (cv (0) Tryz.underlying5 Tryz.underlying3 rfl rfl) (r (ad (a := 0) (b := 0) (0) rfl rfl (by omega)) (r (sa rfl) (re (rt ?_)))))))))))
  exact fin1 (v := .int .i64 0) Tryz.results121 rfl ⟨rfl, Hold.ch H0⟩
theorem bits_Len {w : World} : Ret Tryz.prog 89 #[.int .u64 0] w (fun r w' => r = .int .i64 0 ∧ Ch [] w w') := by
  refine enter Tryz.func89 rfl Tryz.ntmps89 (by rfl) (by rfl) ?_
  have H0 : Hold w [] w [] := Hold.start w
  refine sq (rg (r (sa rfl) (re (sq (cf rfl (sk (sq (rg (r (mv rfl) (cl go121 (bits_Len64) (ac rfl an) ?_))))))))))
  rintro r wb ⟨rfl, cb⟩
  have H1 : Hold w [] wb [] := Hold.t H0 cb
  clear H0
  clear cb
  refine r (sa rfl) (re (rt ?_))
  exact fin1 (v := .int .i64 0) Tryz.results89 rfl ⟨rfl, Hold.ch H1⟩
theorem sortNone {w : World} : Ret Tryz.prog 48 #[.slice none 0 0, .func (.func 49) #[] #[]] w (fun r w' => Ch [] w w') := by
  refine enter Tryz.func48 rfl Tryz.ntmps48 (by rfl) (by rfl) ?_
  have H0 : Hold w [] w [] := Hold.start w
  refine sq (rg (r (mv rfl) (r (lnl Tryz.underlying78 rfl) (r (sa rfl) (re (rg (r (mv rfl) (r (mv rfl) (r (mv rfl) (r (cv (0) Tryz.underlying3 Tryz.underlying160 rfl rfl) (cl go89 (bits_Len) (ac rfl an) ?_)))))))))))
  rintro r wb ⟨rfl, cb⟩
  have H1 : Hold w [] wb [] := Hold.t H0 cb
  clear H0
  clear cb
  refine r (mv rfl) (cl go88 (pdq) (ac rfl (ac rfl (ac rfl (ac rfl (ac rfl an))))) ?_)
  rintro _ wp cp9
  have H2 : Hold w [] wp [] := Hold.t H1 cp9
  clear H1
  clear cp9
  refine re ?_
  exact fin0 Tryz.results48 (Hold.ch H2)
theorem slices_Index0 {w : World} {F : List Nat} {v : Value} {xs : List Int} (hx : i64.R w F v xs) (lx : xs.length ≤ 1000000000) (h : 0 < xs.length) (h0 : xs[0] = 0) : Ret Tryz.prog 51 #[v, .int .i64 0] w (fun r w' => r = .int .i64 0 ∧ Ch [] w w') := by
  refine enter Tryz.func51 rfl Tryz.ntmps51 (by rfl) (by rfl) ?_
  have H0 : Hold w [] w [] := Hold.start w
  refine sq (rg (r (sa rfl) (re (sq (sq (rg (r (mv rfl) (r (ln Tryz.underlying86 rfl ((hx.t (Hold.ch H0)))) (r (mv rfl) (re (bl ?_)))))))))))
  refine lp (α := Unit) (fun _u ρ w' => ρ 0 = v ∧ ρ 1 = .int .i64 0 ∧ ρ 6 = v ∧ ρ 7 = .int .i64 (xs.length : Int) ∧ ρ 8 = .int .i64 0 ∧ Hold w [] w' [] ∧ True) (fun _u => 0) () ?_ ?_
  · exact ⟨rfl, rfl, rfl, rfl, rfl, H0, trivial⟩
  clear H0
  rintro _u ρ w501 ⟨y0, y1, y6, y7, y8, H1, -⟩
  refine sq (rg (r (bi y8 y7 rfl) (re (sq ?_))))
  refine ct ((rfl : _ = Value.bool (decide ((0 : Int) < (xs.length : Int)))).trans (congrArg Value.bool (show (decide ((0 : Int) < (xs.length : Int))) = true from (decide_eq_true (by omega))))) ?_
  refine sk (sq (bl (sq (rg (r (mv y8) (r (sa rfl) (re (sq (rg (r (mv y1) (r (mv y0) (r (mv rfl) ?_))))))))))))
  obtain ⟨c14_1, ad14_1, k14_1, e14_1, p14_1⟩ := Kd.R.place hx 0 (h)
  refine r (ix (j := 0) Tryz.underlying86 ti2 e14_1 rfl (h)) (r (Rn.cast (v' := .int .i64 0) (ld Tryz.underlying2 rfl rfl (Ch.cell (Hold.ch H1) p14_1.cell)) (congrArg (Value.int .i64) h0)) (r (bi rfl rfl rfl) (re ?_)))
  refine ct ((rfl : _ = Value.bool (decide ((0 : Int) = 0))).trans (congrArg Value.bool (show (decide ((0 : Int) = 0)) = true from (decide_eq_true rfl)))) ?_
  refine sq (rg (r (mv rfl) (r (sa rfl) (re (rt ?_)))))
  exact fin1 (v := .int .i64 0) Tryz.results51 rfl ⟨rfl, Hold.ch H1⟩
theorem slices_Contains0 {w : World} {F : List Nat} {v : Value} {xs : List Int} (hx : i64.R w F v xs) (lx : xs.length ≤ 1000000000) (h : 0 < xs.length) (h0 : xs[0] = 0) : Ret Tryz.prog 29 #[v, .int .i64 0] w (fun r w' => r = .bool true ∧ Ch [] w w') := by
  refine enter Tryz.func29 rfl Tryz.ntmps29 (by rfl) (by rfl) ?_
  have H0 : Hold w [] w [] := Hold.start w
  refine sq (rg (r (sa rfl) (re (sq (rg (r (mv rfl) (r (mv rfl) (cl go51 (slices_Index0 (hx.t (Hold.ch H0)) lx h h0) (ac rfl (ac rfl an)) ?_))))))))
  rintro r wi ⟨rfl, ci9⟩
  have H1 : Hold w [] wi [] := Hold.t H0 ci9
  clear H0
  clear ci9
  refine r (Rn.cast (v' := .bool true) (bi rfl rfl rfl) rfl) (r (sa rfl) (re (rt ?_)))
  exact fin1 (v := .bool true) Tryz.results29 rfl ⟨rfl, Hold.ch H1⟩
end Go.Proofs.YtanfhikfeabidaaGreatDoor

namespace Go.Proofs.YtanfhikfeabidaaGreatDoor
open Go Go.Eng
set_option maxRecDepth 100000
set_option maxHeartbeats 4000000
set_option linter.unusedVariables false
set_option linter.unusedSimpArgs false
/-- The three numbers that a header's bytes begin with. -/
def hq (xs : List Int) : Int := IntKind.i64.wrap (unbig (xs.take 8))
def hs_ (xs : List Int) : Int := IntKind.i64.wrap (unbig ((xs.drop 8).take 2))
def hb_ (xs : List Int) : Int := IntKind.i64.wrap (unbig ((xs.drop 10).take 2))
theorem DecodeHeader_1 {w : World} {G F : List Nat} {gs gh : Nat} {v : Value} {xs : List Int} (hs : Hs w [rB gs 152 [v], rB gh 73 [.int .i64 0, .int .i64 0, .int .i64 0]] F) (nd : F.Nodup) (hx : u8.R w G v xs) (hd : ∀ k, k ∈ G → k ∉ F) (lx : xs.length ≤ 1000000000) (ok : ok8 xs) :
    RetP Tryz.prog 64 #[.pointer (some ⟨gs, 0, none⟩), .pointer (some ⟨gh, 0, none⟩)] w (fun r w' => 12 ≤ xs.length ∧ Hold w F w' [rB gh 73 [.int .i64 (hq xs), .int .i64 (hs_ xs), .int .i64 (hb_ xs)]]) (fun c w' => xs.length < 12 ∧ c = [ranOut] ∧ Hold w F w' [rB gh 73 [.int .i64 0, .int .i64 0, .int .i64 0]]) := by
  refine enterP Tryz.func64 rfl Tryz.ntmps64 (by rfl) (by rfl) ?_
  have H0 : Hold w F w [rB gs 152 ([v]), rB gh 73 ([.int .i64 0, .int .i64 0, .int .i64 0])] := Hold.begin hs nd
  obtain ⟨F1, hF1, n1, s1, K1⟩ := Hold.front (Γ := [rB gs 152 ([v])]) (Δ := [rB gh 73 ([.int .i64 0, .int .i64 0, .int .i64 0])]) H0
  refine rg (r (mv rfl) (clp go65 (num (n := 8) hF1 n1 (hx.tt (Hold.ch H0) hd) (dis_of hx.lt hd s1) (by first | assumption | (simp; omega)) (by omega) (by first | exact ok | exact ok8_drop ok _)) (ac rfl (ac rfl an)) (fun c w2 a hp ha => FinP.panic (show _ ∧ _ ∧ _ from ⟨by have h9 := hp.1; (try simp only [List.length_drop] at *); omega, hp.2.1, (Hold.re (Hold.call K1 hp.2.2) [1, 0] (by rfl) (by rfl) : Hold _ _ _ ([rB gh 73 [.int .i64 0, .int .i64 0, .int .i64 0]] ++ [_])).drop⟩) ha) ?_))
  rintro r wn8a ⟨hl8, rfl, Hn⟩
  have H1 : Hold w F wn8a [rB gs 152 ([slv v 8 xs.length 1]), rB gh 73 ([.int .i64 0, .int .i64 0, .int .i64 0])] := Hold.call K1 Hn
  clear H0
  clear K1 hF1 n1 s1
  clear Hn
  refine r (mv rfl) ?_
  obtain ⟨F2, hF2, n2, s2, K2⟩ := Hold.front (Γ := [rB gs 152 ([slv v 8 xs.length 1])]) (Δ := [rB gh 73 ([.int .i64 0, .int .i64 0, .int .i64 0])]) H1
  obtain ⟨F3, us3, R3⟩ := Kd.R.sl (hx.tt (Hold.ch H1) hd) (8) (xs.length) (by first | omega | (simp; omega)) (by first | omega | (simp; omega))
  have e3 : (xs.take xs.length).drop 8 = xs.drop 8 := by first | (rw [List.take_length, List.drop_drop]; done) | (rw [List.drop_take]; done) | (simp; done) | (rw [List.drop_take]; congr 1; omega) | (rw [List.take_length, List.drop_drop]; congr 1; omega)
  rw [e3] at R3
  refine clp go65 (num (n := 2) hF2 n2 R3 (fun k hk => (dis_of hx.lt hd s2) k (us3 k hk)) (by first | assumption | (simp; omega)) (by omega) (by first | exact ok | exact ok8_drop ok _)) (ac rfl (ac rfl an)) (fun c w2 a hp ha => FinP.panic (show _ ∧ _ ∧ _ from ⟨by have h9 := hp.1; (try simp only [List.length_drop] at *); omega, hp.2.1, (Hold.re (Hold.call K2 hp.2.2) [1, 0] (by rfl) (by rfl) : Hold _ _ _ ([rB gh 73 [.int .i64 0, .int .i64 0, .int .i64 0]] ++ [_])).drop⟩) ha) ?_
  rintro r wn2b ⟨hlb, rfl, Hn⟩
  have H2 : Hold w F wn2b [rB gs 152 ([slv (slv v 8 xs.length 1) 2 ((xs.drop 8).length) 1]), rB gh 73 ([.int .i64 0, .int .i64 0, .int .i64 0])] := Hold.call K2 Hn
  clear H1
  clear K2 hF2 n2 s2
  clear Hn
  refine r (mv rfl) ?_
  obtain ⟨F4, hF4, n4, s4, K4⟩ := Hold.front (Γ := [rB gs 152 ([slv (slv v 8 xs.length 1) 2 ((xs.drop 8).length) 1])]) (Δ := [rB gh 73 ([.int .i64 0, .int .i64 0, .int .i64 0])]) H2
  obtain ⟨F5, us5, R5⟩ := Kd.R.sl (hx.tt (Hold.ch H2) hd) (8) (xs.length) (by first | omega | (simp; omega)) (by first | omega | (simp; omega))
  have e5 : (xs.take xs.length).drop 8 = xs.drop 8 := by first | (rw [List.take_length, List.drop_drop]; done) | (rw [List.drop_take]; done) | (simp; done) | (rw [List.drop_take]; congr 1; omega) | (rw [List.take_length, List.drop_drop]; congr 1; omega)
  rw [e5] at R5
  obtain ⟨F6, us6, R6⟩ := Kd.R.sl R5 (2) ((xs.drop 8).length) (by first | omega | (simp; omega)) (by first | omega | (simp; omega))
  have e6 : ((xs.drop 8).take ((xs.drop 8).length)).drop 2 = xs.drop 10 := by first | (rw [List.take_length, List.drop_drop]; done) | (rw [List.drop_take]; done) | (simp; done) | (rw [List.drop_take]; congr 1; omega) | (rw [List.take_length, List.drop_drop]; congr 1; omega)
  rw [e6] at R6
  refine clp go65 (num (n := 2) hF4 n4 R6 (fun k hk => (fun k hk => (dis_of hx.lt hd s4) k (us5 k hk)) k (us6 k hk)) (by first | assumption | (simp; omega)) (by omega) (by first | exact ok | exact ok8_drop ok _)) (ac rfl (ac rfl an)) (fun c w2 a hp ha => FinP.panic (show _ ∧ _ ∧ _ from ⟨by have h9 := hp.1; (try simp only [List.length_drop] at *); omega, hp.2.1, (Hold.re (Hold.call K4 hp.2.2) [1, 0] (by rfl) (by rfl) : Hold _ _ _ ([rB gh 73 [.int .i64 0, .int .i64 0, .int .i64 0]] ++ [_])).drop⟩) ha) ?_
  rintro r wn2c ⟨hlc, rfl, Hn⟩
  have H3 : Hold w F wn2c [rB gs 152 ([slv (slv (slv v 8 xs.length 1) 2 ((xs.drop 8).length) 1) 2 ((xs.drop 10).length) 1]), rB gh 73 ([.int .i64 0, .int .i64 0, .int .i64 0])] := Hold.call K4 Hn
  clear H2
  clear K4 hF4 n4 s4
  clear Hn
  have b7 : B wn2c gh 73 ([.int .i64 0, .int .i64 0, .int .i64 0]) := Hold.blk H3 1 rfl
  refine r (bd (r := [.int .i64 (hq xs), .int .i64 (hs_ xs), .int .i64 (hb_ xs)]) ti73 pl73 (pc rfl (cel1 rfl) (pc rfl (cel1 rfl) (pc rfl (cel1 rfl) pn))) rfl) (ef0 (xst (vs := [.int .i64 (hq xs), .int .i64 (hs_ xs), .int .i64 (hb_ xs)]) ti73 rfl rfl rfl b7 rfl (Nat.le_of_ble_eq_true rfl) (one_all rfl)) ?_)
  rintro w8 ⟨-, b8, c8⟩
  have H4 : Hold w F w8 [rB gs 152 ([slv (slv (slv v 8 xs.length 1) 2 ((xs.drop 8).length) 1) 2 ((xs.drop 10).length) 1]), rB gh 73 ([.int .i64 (hq xs), .int .i64 (hs_ xs), .int .i64 (hb_ xs)])] := Hold.setB H3 1 rfl b8 c8 rfl
  clear H3
  clear b8 c8
  refine re ?_
  simp only [List.length_drop] at hlb hlc
  have H5 : Hold w F w8 [rB gh 73 ([.int .i64 (hq xs), .int .i64 (hs_ xs), .int .i64 (hb_ xs)])] := (show Hold w F w8 ([rB gh 73 ([.int .i64 (hq xs), .int .i64 (hs_ xs), .int .i64 (hb_ xs)])] ++ [rB gs 152 ([slv (slv (slv v 8 xs.length 1) 2 ((xs.drop 8).length) 1) 2 ((xs.drop 10).length) 1])]) from Hold.re H4 [1, 0] (by kernel_rfl) (by rfl)).drop
  clear H4
  refine finp ?_
  exact fin0 Tryz.results64 ⟨by omega, H5⟩
abbrev decH (xs : List Int) : Prop := xs.length = 64 ∧ hdr (hq xs) (hs_ xs) (hb_ xs) ∧ encH (hq xs) (hs_ xs) (hb_ xs) = xs
def dV (xs : List Int) (v : Int) : Int := if decH xs then v else 0
theorem dV_no {xs : List Int} {v : Int} (h : ¬ decH xs) : dV xs v = 0 := if_neg h
theorem dV_yes {xs : List Int} {v : Int} (h : decH xs) : dV xs v = v := if_pos h
theorem impl_DecodeHeader {w : World} {F : List Nat} {v : Value} {xs : List Int} (hx : u8.R w F v xs) (lx : xs.length ≤ 1000000000) (ok : ok8 xs) :
    Ret Tryz.prog 40 #[v] w (fun r w' => r = .agg #[.bool (decide (decH xs)), .int .i64 (dV xs (hq xs)), .int .i64 (dV xs (hs_ xs)), .int .i64 (dV xs (hb_ xs))] ∧ Ch [] w w') := by
  refine enter Tryz.func40 rfl Tryz.ntmps40 (by rfl) (by rfl) ?_
  have H0 : Hold w [] w [] := Hold.start w
  refine sq (rg (ef (xal ti108) ?_))
  rintro _ w1 ⟨g2, e1, rfl, -, b1, c1⟩
  have H1 : Hold w [] w1 [rB g2 108 ([.bool false, .int .i64 0, .int .i64 0, .int .i64 0])] := Hold.newB H0 e1 b1 c1
  clear H0
  clear e1 b1 c1
  refine re (sq (rg (ef (xal ti73) ?_)))
  rintro _ w2 ⟨g3, e2, rfl, -, b2, c2⟩
  have H2 : Hold w [] w2 [rB g2 108 ([.bool false, .int .i64 0, .int .i64 0, .int .i64 0]), rB g3 73 ([.int .i64 0, .int .i64 0, .int .i64 0])] := Hold.newB H1 e2 b2 c2
  clear H1
  clear e2 b2 c2
  have H3 : Hold w [] w2 [rB g3 73 ([.int .i64 0, .int .i64 0, .int .i64 0]), rB g2 108 ([.bool false, .int .i64 0, .int .i64 0, .int .i64 0])] := Hold.re H2 [1, 0] (by kernel_rfl) (by rfl)
  clear H2
  obtain ⟨F3, hF3, n3, s3, K3⟩ := Hold.front (Γ := [rB g3 73 ([.int .i64 0, .int .i64 0, .int .i64 0])]) (Δ := [rB g2 108 ([.bool false, .int .i64 0, .int .i64 0, .int .i64 0])]) H3
  have S3 : ∀ k, k ∈ F3 → k ∈ ([] : List Nat) ∨ w.heap.size ≤ k := s3
  refine re (sq (rg (r (mv rfl) (r (mf (vs := []) (cs := [.pointer (some ⟨g3, 0, none⟩)]) an (ac rfl an)) (cl go63 ((reading (cap := [.pointer (some ⟨g3, 0, none⟩)]) (A := rB g3 73 [.int .i64 0, .int .i64 0, .int .i64 0]) (Aok := rB g3 73 [.int .i64 (hq xs), .int .i64 (hs_ xs), .int .i64 (hb_ xs)]) (Abad := rB g3 73 [.int .i64 0, .int .i64 0, .int .i64 0]) (okp := 12 ≤ xs.length) (badp := xs.length < 12) (hx.t (Hold.ch H3)) (dis_of0 hx.lt S3) go64 hF3 n3 (fun w1 gs F1 c1 h1 n1 s1 => DecodeHeader_1 h1 n1 ((hx.t (Hold.ch H3)).tt c1 (dis_of0 hx.lt S3)) (dis_of (Kd.R.lt (hx.t (Hold.ch H3))) (dis_of0 hx.lt S3) s1) lx ok))) (ac rfl (ac rfl an)) ?_)))))
  rintro r wr (⟨rfl, hok, Hr⟩ | ⟨rfl, hok, Hr⟩)
  · have H4 : Hold w [] wr [rB g3 73 ([.int .i64 (hq xs), .int .i64 (hs_ xs), .int .i64 (hb_ xs)]), rB g2 108 ([.bool false, .int .i64 0, .int .i64 0, .int .i64 0])] := Hold.call K3 Hr
    clear H3
    refine r (sa rfl) (re (sq (sq ?_)))
    refine rde mixed ?_
    intro w4 c4
    have H5 : Hold w [] w4 [rB g3 73 ([.int .i64 (hq xs), .int .i64 (hs_ xs), .int .i64 (hb_ xs)]), rB g2 108 ([.bool false, .int .i64 0, .int .i64 0, .int .i64 0])] := Hold.t H4 c4
    clear H4
    clear c4
    have H5d0 : Hold w4 [] w4 [] := Hold.start w4
    refine ⟨fun w' => Ch [] w4 w', Ch.refl _ _, ?_⟩
    refine edt 0 rfl (by kernel_rfl) (fun w' hS => mv rfl) (edt 1 rfl (by kernel_rfl) (fun w' hS => nt rfl) (edt 2 rfl (by kernel_rfl) (fun w' hS => mv rfl) (edty 3 rfl (by kernel_rfl) rfl rfl rfl (fun w' hS => mv rfl) (edty 4 rfl (by kernel_rfl) rfl rfl rfl (fun w' hS => ln Tryz.underlying22 rfl (((hx.t (Hold.ch H5)).t hS))) (edty 5 rfl (by kernel_rfl) rfl rfl rfl (fun w' hS => bi rfl rfl rfl) (edt 6 rfl (by kernel_rfl) (fun w' hS => pk rfl rfl) (edt 7 rfl (by kernel_rfl) (fun w' hS => mv rfl) ?_)))))))
    refine spne 15 rfl (fun h64 => ?_) (fun h64 => ?_)
    · refine edtn 8 rfl (by kernel_rfl) rfl rfl rfl (edtn 9 rfl (by kernel_rfl) rfl rfl rfl (edtn 10 rfl (by kernel_rfl) rfl rfl rfl (edt 11 rfl (by kernel_rfl) (fun w' hS => pk rfl rfl) (edt 12 rfl (by kernel_rfl) (fun w' hS => mv rfl) (edtn 13 rfl (by kernel_rfl) rfl rfl rfl (edtn 14 rfl (by kernel_rfl) rfl rfl rfl (edtn 15 rfl (by kernel_rfl) rfl rfl rfl (edtn 16 rfl (by kernel_rfl) rfl rfl rfl (edtn 17 rfl (by kernel_rfl) rfl rfl rfl (edtn 18 rfl (by kernel_rfl) rfl rfl rfl ?_))))))))))
      have H6 : Hold w [] w4 [rB g3 73 ([.int .i64 (hq xs), .int .i64 (hs_ xs), .int .i64 (hb_ xs)]), rB g2 108 ([.bool false, .int .i64 0, .int .i64 0, .int .i64 0])] := Hold.news H5 H5d0
      clear H5d0 H5
      refine ed1 19 (by kernel_rfl) <| eur rfl (pk rfl rfl) (.inl (by kernel_rfl)) ?_
      refine edd (by kernel_rfl) ?_
      refine ct rfl (sq ?_)
      refine gen (fun ρ => ρ 2 = .pointer (some ⟨g2, 0, none⟩) ∧ ρ 3 = .pointer (some ⟨g3, 0, none⟩) ∧ True) ⟨rfl, rfl, trivial⟩ ?_
      rintro ρ ⟨z2, z3, -⟩
      have b6 : B w4 g2 108 ([.bool false, .int .i64 0, .int .i64 0, .int .i64 0]) := Hold.blk H6 1 rfl
      refine rg (r (bd (r := [.bool false, .int .i64 0, .int .i64 0, .int .i64 0]) ti108 pl108 pn rfl) (ef0 (xst (vs := [.bool false, .int .i64 0, .int .i64 0, .int .i64 0]) ti108 z2 rfl rfl b6 rfl (Nat.le_of_ble_eq_true rfl) (one_all rfl)) ?_))
      rintro w7 ⟨-, b7, c7⟩
      have H7 : Hold w [] w7 [rB g3 73 ([.int .i64 (hq xs), .int .i64 (hs_ xs), .int .i64 (hb_ xs)]), rB g2 108 ([.bool false, .int .i64 0, .int .i64 0, .int .i64 0])] := Hold.setB H6 1 rfl b7 c7 rfl
      clear H6
      clear b7 c7
      refine re (rt ?_)
      have hD : ¬ decH xs := fun e => h64 (by have := e.1; omega)
      rw [decide_eq_false hD, dV_no hD, dV_no hD, dV_no hD]
      have b8 : B w7 g2 108 ([.bool false, .int .i64 0, .int .i64 0, .int .i64 0]) := Hold.blk H7 1 rfl
      exact finc  (cs := [.bool false, .int .i64 0, .int .i64 0, .int .i64 0]) Tryz.results40 Tryz.underlying108 rfl ti108 z2 b8 rfl  ⟨rfl, Hold.ch H7⟩
    · have h64' : xs.length = 64 := by omega
      have b6 : B w4 g3 73 ([.int .i64 (hq xs), .int .i64 (hs_ xs), .int .i64 (hb_ xs)]) := Hold.blk H5 0 rfl
      refine edty 8 rfl (by kernel_rfl) rfl rfl rfl (fun w' hS => lab [.int .i64 (hq xs), .int .i64 (hs_ xs), .int .i64 (hb_ xs)] Tryz.underlying73 rfl ti73 rfl (hS.b0 b6) rfl rfl) (ed1 9 (by kernel_rfl) <| eucg rfl rfl rfl rfl go66 (ac rfl an) (Header_valid) ?_)
      rintro r wv ⟨rfl, cv⟩
      have H6d : Hold w4 [] wv [] := Hold.t H5d0 cv
      clear H5d0
      clear cv
      refine ⟨.inr (Hold.ch H6d), ?_⟩
      refine edty 10 rfl (by kernel_rfl) rfl rfl rfl (fun w' hS => nt rfl) (edt 11 rfl (by kernel_rfl) (fun w' hS => pk rfl rfl) (edt 12 rfl (by kernel_rfl) (fun w' hS => mv rfl) ?_))
      refine spne 20 rfl (fun hh => ?_) (fun hh => ?_)
      · refine edtn 13 rfl (by kernel_rfl) rfl rfl rfl (edtn 14 rfl (by kernel_rfl) rfl rfl rfl (edtn 15 rfl (by kernel_rfl) rfl rfl rfl (edtn 16 rfl (by kernel_rfl) rfl rfl rfl (edtn 17 rfl (by kernel_rfl) rfl rfl rfl (edtn 18 rfl (by kernel_rfl) rfl rfl rfl ?_)))))
        have H7 : Hold w [] wv [rB g3 73 ([.int .i64 (hq xs), .int .i64 (hs_ xs), .int .i64 (hb_ xs)]), rB g2 108 ([.bool false, .int .i64 0, .int .i64 0, .int .i64 0])] := Hold.news H5 H6d
        clear H6d H5
        refine ed1 19 (by kernel_rfl) <| eur rfl (pk rfl rfl) (.inl (by kernel_rfl)) ?_
        refine edd (by kernel_rfl) ?_
        refine ct rfl (sq ?_)
        refine gen (fun ρ => ρ 2 = .pointer (some ⟨g2, 0, none⟩) ∧ ρ 3 = .pointer (some ⟨g3, 0, none⟩) ∧ True) ⟨rfl, rfl, trivial⟩ ?_
        rintro ρ ⟨z2, z3, -⟩
        have b8 : B wv g2 108 ([.bool false, .int .i64 0, .int .i64 0, .int .i64 0]) := Hold.blk H7 1 rfl
        refine rg (r (bd (r := [.bool false, .int .i64 0, .int .i64 0, .int .i64 0]) ti108 pl108 pn rfl) (ef0 (xst (vs := [.bool false, .int .i64 0, .int .i64 0, .int .i64 0]) ti108 z2 rfl rfl b8 rfl (Nat.le_of_ble_eq_true rfl) (one_all rfl)) ?_))
        rintro w9 ⟨-, b9, c9⟩
        have H8 : Hold w [] w9 [rB g3 73 ([.int .i64 (hq xs), .int .i64 (hs_ xs), .int .i64 (hb_ xs)]), rB g2 108 ([.bool false, .int .i64 0, .int .i64 0, .int .i64 0])] := Hold.setB H7 1 rfl b9 c9 rfl
        clear H7
        clear b9 c9
        refine re (rt ?_)
        have hD : ¬ decH xs := fun e => hh e.2.1
        rw [decide_eq_false hD, dV_no hD, dV_no hD, dV_no hD]
        have b10 : B w9 g2 108 ([.bool false, .int .i64 0, .int .i64 0, .int .i64 0]) := Hold.blk H8 1 rfl
        exact finc  (cs := [.bool false, .int .i64 0, .int .i64 0, .int .i64 0]) Tryz.results40 Tryz.underlying108 rfl ti108 z2 b10 rfl  ⟨rfl, Hold.ch H8⟩
      · obtain ⟨ad8, c8, e8⟩ := Kd.R.adr ((hx.t (Hold.ch H5)).t (Hold.ch H6d)) (by omega)
        refine edty 13 rfl (by kernel_rfl) rfl rfl rfl (fun w' hS => lab [.int .i64 (hq xs), .int .i64 (hs_ xs), .int .i64 (hb_ xs)] Tryz.underlying73 rfl ti73 rfl (hS.b0 b6) rfl rfl) (edty 15 rfl (by kernel_rfl) rfl rfl rfl (fun w' hS => mv rfl) (edty 16 rfl (by kernel_rfl) rfl rfl rfl (fun w' hS => s2a Tryz.underlying71 (e8) (by omega)) (edty 17 rfl (by kernel_rfl) rfl rfl rfl (fun w' hS => lar Tryz.underlying71 ti71 e8 ((hx.t (Hold.ch H5)).t hS) (by omega) rfl) (ed1 14 (by kernel_rfl) <| eucg rfl rfl rfl rfl go18 (ac rfl an) (Header_block hh) ?_))))
        rintro r wb ⟨rfl, cb⟩
        have H7d : Hold w4 [] wb [] := Hold.t H6d cb
        clear H6d
        clear cb
        refine ⟨.inr (Hold.ch H7d), ?_⟩
        refine edty 18 rfl (by kernel_rfl) rfl rfl rfl (fun w' hS => ane Tryz.underlying71 Tryz.underlying5 ti5 (by kernel_rfl) rfl rfl (encH_len _ _ _) (by simp; omega)) ?_
        have H8 : Hold w [] wb [rB g3 73 ([.int .i64 (hq xs), .int .i64 (hs_ xs), .int .i64 (hb_ xs)]), rB g2 108 ([.bool false, .int .i64 0, .int .i64 0, .int .i64 0])] := Hold.news H5 H7d
        clear H7d H5
        refine ed1 19 (by kernel_rfl) <| eur rfl (pk rfl rfl) (.inl (by kernel_rfl)) ?_
        refine edd (by kernel_rfl) ?_
        refine cpn rfl (fun he => ?_) (fun he => ?_)
        · refine sq ?_
          refine gen (fun ρ => ρ 2 = .pointer (some ⟨g2, 0, none⟩) ∧ ρ 3 = .pointer (some ⟨g3, 0, none⟩) ∧ True) ⟨rfl, rfl, trivial⟩ ?_
          rintro ρ ⟨z2, z3, -⟩
          have b10 : B wb g2 108 ([.bool false, .int .i64 0, .int .i64 0, .int .i64 0]) := Hold.blk H8 1 rfl
          refine rg (r (bd (r := [.bool false, .int .i64 0, .int .i64 0, .int .i64 0]) ti108 pl108 pn rfl) (ef0 (xst (vs := [.bool false, .int .i64 0, .int .i64 0, .int .i64 0]) ti108 z2 rfl rfl b10 rfl (Nat.le_of_ble_eq_true rfl) (one_all rfl)) ?_))
          rintro w11 ⟨-, b11, c11⟩
          have H9 : Hold w [] w11 [rB g3 73 ([.int .i64 (hq xs), .int .i64 (hs_ xs), .int .i64 (hb_ xs)]), rB g2 108 ([.bool false, .int .i64 0, .int .i64 0, .int .i64 0])] := Hold.setB H8 1 rfl b11 c11 rfl
          clear H8
          clear b11 c11
          refine re (rt ?_)
          have hD : ¬ decH xs := fun e => he (by rw [List.take_of_length_le (by omega)]; exact e.2.2)
          rw [decide_eq_false hD, dV_no hD, dV_no hD, dV_no hD]
          have b12 : B w11 g2 108 ([.bool false, .int .i64 0, .int .i64 0, .int .i64 0]) := Hold.blk H9 1 rfl
          exact finc  (cs := [.bool false, .int .i64 0, .int .i64 0, .int .i64 0]) Tryz.results40 Tryz.underlying108 rfl ti108 z2 b12 rfl  ⟨rfl, Hold.ch H9⟩
        · have hD : decH xs := ⟨h64', hh, by rw [List.take_of_length_le (by omega)] at he; exact he⟩
          rw [decide_eq_true hD, dV_yes hD, dV_yes hD, dV_yes hD]
          refine sk (sq ?_)
          refine gen (fun ρ => ρ 2 = .pointer (some ⟨g2, 0, none⟩) ∧ ρ 3 = .pointer (some ⟨g3, 0, none⟩) ∧ True) ⟨rfl, rfl, trivial⟩ ?_
          rintro ρ ⟨z2, z3, -⟩
          have b10 : B wb g3 73 ([.int .i64 (hq xs), .int .i64 (hs_ xs), .int .i64 (hb_ xs)]) := Hold.blk H8 0 rfl
          have b11 : B wb g2 108 ([.bool false, .int .i64 0, .int .i64 0, .int .i64 0]) := Hold.blk H8 1 rfl
          refine rg (r (lab [.int .i64 (hq xs), .int .i64 (hs_ xs), .int .i64 (hb_ xs)] Tryz.underlying73 rfl ti73 z3 b10 rfl rfl) (r (bd (r := [.bool true, .int .i64 (hq xs), .int .i64 (hs_ xs), .int .i64 (hb_ xs)]) ti108 pl108 (pc rfl (cel1 rfl) (pc rfl rfl pn)) rfl) (ef0 (xst (vs := [.bool true, .int .i64 (hq xs), .int .i64 (hs_ xs), .int .i64 (hb_ xs)]) ti108 z2 rfl rfl b11 rfl (Nat.le_of_ble_eq_true rfl) (one_all rfl)) ?_)))
          rintro w12 ⟨-, b12, c12⟩
          have H9 : Hold w [] w12 [rB g3 73 ([.int .i64 (hq xs), .int .i64 (hs_ xs), .int .i64 (hb_ xs)]), rB g2 108 ([.bool true, .int .i64 (hq xs), .int .i64 (hs_ xs), .int .i64 (hb_ xs)])] := Hold.setB H8 1 rfl b12 c12 rfl
          clear H8
          clear b12 c12
          refine re (rt ?_)
          have b13 : B w12 g2 108 ([.bool true, .int .i64 (hq xs), .int .i64 (hs_ xs), .int .i64 (hb_ xs)]) := Hold.blk H9 1 rfl
          exact finc  (cs := [.bool true, .int .i64 (hq xs), .int .i64 (hs_ xs), .int .i64 (hb_ xs)]) Tryz.results40 Tryz.underlying108 rfl ti108 z2 b13 rfl  ⟨rfl, Hold.ch H9⟩
  · have H4 : Hold w [] wr [rB g3 73 ([.int .i64 0, .int .i64 0, .int .i64 0]), rB g2 108 ([.bool false, .int .i64 0, .int .i64 0, .int .i64 0])] := Hold.call K3 Hr
    clear H3
    refine r (sa rfl) (re (sq (sq ?_)))
    refine rde mixed ?_
    intro w4 c4
    have H5 : Hold w [] w4 [rB g3 73 ([.int .i64 0, .int .i64 0, .int .i64 0]), rB g2 108 ([.bool false, .int .i64 0, .int .i64 0, .int .i64 0])] := Hold.t H4 c4
    clear H4
    clear c4
    have H5d0 : Hold w4 [] w4 [] := Hold.start w4
    refine ⟨fun w' => Ch [] w4 w', Ch.refl _ _, ?_⟩
    refine edt 0 rfl (by kernel_rfl) (fun w' hS => mv rfl) (edt 1 rfl (by kernel_rfl) (fun w' hS => nt rfl) (edt 2 rfl (by kernel_rfl) (fun w' hS => mv rfl) (edtn 3 rfl (by kernel_rfl) rfl rfl rfl (edtn 4 rfl (by kernel_rfl) rfl rfl rfl (edtn 5 rfl (by kernel_rfl) rfl rfl rfl (edt 6 rfl (by kernel_rfl) (fun w' hS => pk rfl rfl) (edt 7 rfl (by kernel_rfl) (fun w' hS => mv rfl) (edtn 8 rfl (by kernel_rfl) rfl rfl rfl (edtn 9 rfl (by kernel_rfl) rfl rfl rfl (edtn 10 rfl (by kernel_rfl) rfl rfl rfl (edt 11 rfl (by kernel_rfl) (fun w' hS => pk rfl rfl) (edt 12 rfl (by kernel_rfl) (fun w' hS => mv rfl) (edtn 13 rfl (by kernel_rfl) rfl rfl rfl (edtn 14 rfl (by kernel_rfl) rfl rfl rfl (edtn 15 rfl (by kernel_rfl) rfl rfl rfl (edtn 16 rfl (by kernel_rfl) rfl rfl rfl (edtn 17 rfl (by kernel_rfl) rfl rfl rfl (edtn 18 rfl (by kernel_rfl) rfl rfl rfl ?_))))))))))))))))))
    have H6 : Hold w [] w4 [rB g3 73 ([.int .i64 0, .int .i64 0, .int .i64 0]), rB g2 108 ([.bool false, .int .i64 0, .int .i64 0, .int .i64 0])] := Hold.news H5 H5d0
    clear H5d0 H5
    refine ed1 19 (by kernel_rfl) <| eur rfl (pk rfl rfl) (.inl (by kernel_rfl)) ?_
    refine edd (by kernel_rfl) ?_
    refine ct rfl (sq ?_)
    refine gen (fun ρ => ρ 2 = .pointer (some ⟨g2, 0, none⟩) ∧ ρ 3 = .pointer (some ⟨g3, 0, none⟩) ∧ True) ⟨rfl, rfl, trivial⟩ ?_
    rintro ρ ⟨z2, z3, -⟩
    have b6 : B w4 g2 108 ([.bool false, .int .i64 0, .int .i64 0, .int .i64 0]) := Hold.blk H6 1 rfl
    refine rg (r (bd (r := [.bool false, .int .i64 0, .int .i64 0, .int .i64 0]) ti108 pl108 pn rfl) (ef0 (xst (vs := [.bool false, .int .i64 0, .int .i64 0, .int .i64 0]) ti108 z2 rfl rfl b6 rfl (Nat.le_of_ble_eq_true rfl) (one_all rfl)) ?_))
    rintro w7 ⟨-, b7, c7⟩
    have H7 : Hold w [] w7 [rB g3 73 ([.int .i64 0, .int .i64 0, .int .i64 0]), rB g2 108 ([.bool false, .int .i64 0, .int .i64 0, .int .i64 0])] := Hold.setB H6 1 rfl b7 c7 rfl
    clear H6
    clear b7 c7
    refine re (rt ?_)
    have hD : ¬ decH xs := fun e => by have := e.1; omega
    rw [decide_eq_false hD, dV_no hD, dV_no hD, dV_no hD]
    have b8 : B w7 g2 108 ([.bool false, .int .i64 0, .int .i64 0, .int .i64 0]) := Hold.blk H7 1 rfl
    exact finc  (cs := [.bool false, .int .i64 0, .int .i64 0, .int .i64 0]) Tryz.results40 Tryz.underlying108 rfl ti108 z2 b8 rfl  ⟨rfl, Hold.ch H7⟩
theorem ok8_app {xs ys : List Int} (h : ok8 xs) (h' : ok8 ys) : ok8 (xs ++ ys) := fun x hx => (List.mem_append.1 hx).elim (h x) (h' x)
theorem ok8_rep (n : Nat) : ok8 (List.replicate n 0) := fun x hx => by rw [List.eq_of_mem_replicate hx]; omega
theorem ok8_big (v : Int) (n : Nat) : ok8 (big v n) := by
  induction n generalizing v with
  | zero => intro x hx; cases hx
  | succ n ih =>
    refine ok8_app (ih _) (fun x hx => ?_)
    rw [List.mem_singleton.1 hx]; omega
end Go.Proofs.YtanfhikfeabidaaGreatDoor

namespace Go.Proofs.YtanfhikfeabidaaGreatDoor
open Go Go.Eng
set_option maxRecDepth 100000
set_option maxHeartbeats 4000000
set_option linter.unusedVariables false
set_option linter.unusedSimpArgs false
theorem unbig_of_big (n : Nat) : ∀ v : Int, 0 ≤ v → v < 256 ^ n → unbig (big v n) = v := by
  induction n with
  | zero => intro v h0 h1; simp at h1; simp [big, unbig]; omega
  | succ n ih =>
    intro v h0 h1
    rw [Int.pow_succ] at h1
    show unbig (big (v / 256) n ++ [v % 256]) = v
    rw [unbig_snoc, ih (v / 256) (by omega) (by omega)]; omega
theorem encH_0 (q s b : Int) : (encH q s b).take 8 = big q 8 := by
  unfold encH
  rw [List.append_assoc, List.append_assoc, List.append_assoc, List.take_append_of_le_length (by rw [big_len]; omega), List.take_of_length_le (by rw [big_len]; omega)]
theorem encH_s (q s b : Int) : ((encH q s b).drop 8).take 2 = big s 2 := by
  unfold encH
  rw [List.append_assoc, List.append_assoc, List.append_assoc, List.drop_append_of_le_length (by rw [big_len]; omega), List.drop_of_length_le (by rw [big_len]; omega), List.nil_append, List.take_append_of_le_length (by rw [big_len]; omega), List.take_of_length_le (by rw [big_len]; omega)]
theorem encH_b (q s b : Int) : ((encH q s b).drop 10).take 2 = big b 2 := by
  have : (big q 8 ++ big s 2).length = 10 := by simp [big_len]
  unfold encH
  rw [List.append_assoc, List.append_assoc, List.drop_append_of_le_length (by omega), List.drop_of_length_le (by omega), List.nil_append, List.take_append_of_le_length (by rw [big_len]; omega), List.take_of_length_le (by rw [big_len]; omega)]
theorem p8 : (256 : Int) ^ 8 = 18446744073709551616 := by rfl
theorem p2 : (256 : Int) ^ 2 = 65536 := by rfl
theorem encH_hq {q s b : Int} (h : hdr q s b) : hq (encH q s b) = q ∧ hs_ (encH q s b) = s ∧ hb_ (encH q s b) = b := by
  refine ⟨?_, ?_, ?_⟩
  · rw [hq, encH_0, unbig_of_big 8 q (by omega) (by rw [p8]; omega)]; exact i64_id (by omega)
  · rw [hs_, encH_s, unbig_of_big 2 s (by omega) (by rw [p2]; omega)]; exact i64_id (by omega)
  · rw [hb_, encH_b, unbig_of_big 2 b (by omega) (by rw [p2]; omega)]; exact i64_id (by omega)
theorem encH_dec {q s b : Int} (h : hdr q s b) : decH (encH q s b) := by
  obtain ⟨h1, h2, h3⟩ := encH_hq h
  refine ⟨encH_len q s b, ?_, ?_⟩
  · rw [h1, h2, h3]; exact h
  · rw [h1, h2, h3]

def zs64 : List Int := List.replicate 64 0
theorem zs64_len : zs64.length = 64 := by simp [zs64]
theorem zs64_ok : ok8 zs64 := ok8_rep 64
theorem zs64_no : ¬ decH zs64 := by
  intro h
  have h1 := h.2.1.1
  have h2 : hq zs64 = 0 := by decide +kernel
  omega
theorem ok8_encH (q s b : Int) : ok8 (encH q s b) := by
  unfold encH
  exact ok8_app (ok8_app (ok8_app (ok8_app (ok8_big _ _) (ok8_big _ _)) (ok8_big _ _)) (ok8_rep _)) (ok8_big _ _)
def bR (r : Nat) : Int := if r = 2 then 1 else -1
def sR (r : Nat) : Int := if r = 2 then 1 else 0
/-- What a fresh disk reads as. -/
structure Fresh (s b : Int) (rdf : Int → List Int) : Prop where
  z0 : rdf 0 = zs64
  z1 : rdf (1 + tabs s b) = encH 1 s b
  z2 : ∀ c, 1 + tabs s b < c → c < logs s b → rdf c = zs64
theorem mt_root {w : World} {F : List Nat} {gm gp : Nat} {s b : Int} {rdf : Int → List Int} (h : Hs w [rB gm 80 ([.pointer (some ⟨gp, 0, none⟩), .int .i64 s, .int .i64 b, .int .i64 (s * b), .int .i64 (tabs s b), .int .i64 (logs s b), .int .i64 (logs s b + s * b), .int .i64 (s * b - 2 * b), .int .i64 0, .slice none 0 0, .slice none 0 0, .slice none 0 0]), rPl gp (logs s b + s * b) rdf] F) (nd : F.Nodup) (hg : geo s b) (hfr : Fresh s b rdf) : Ret Tryz.prog 24 #[.pointer (some ⟨gm, 0, none⟩)] w (fun r w' => r = .int .i64 1 ∧ Hold w F w' [rB gm 80 ([.pointer (some ⟨gp, 0, none⟩), .int .i64 s, .int .i64 b, .int .i64 (s * b), .int .i64 (tabs s b), .int .i64 (logs s b), .int .i64 (logs s b + s * b), .int .i64 (s * b - 2 * b), .int .i64 1, .slice none 0 0, .slice none 0 0, .slice none 0 0]), rPl gp (logs s b + s * b) rdf]) := by
  have hm2 := geo_mul hg
  have hg2 := hg
  unfold geo at hg2
  have htb : 0 ≤ tabs s b ∧ tabs s b ≤ 33 := by unfold tabs; omega
  have hlg : logs s b = 2 * (1 + tabs s b) := rfl
  have hH : hdr 1 s b := by unfold hdr; omega
  refine enter Tryz.func24 rfl Tryz.ntmps24 (by rfl) (by rfl) ?_
  have H0 : Hold w F w [rB gm 80 ([.pointer (some ⟨gp, 0, none⟩), .int .i64 s, .int .i64 b, .int .i64 (s * b), .int .i64 (tabs s b), .int .i64 (logs s b), .int .i64 (logs s b + s * b), .int .i64 (s * b - 2 * b), .int .i64 0, .slice none 0 0, .slice none 0 0, .slice none 0 0]), rPl gp (logs s b + s * b) rdf] := Hold.begin h nd
  have H1 : Hold w F w [rPl gp (logs s b + s * b) rdf, rB gm 80 ([.pointer (some ⟨gp, 0, none⟩), .int .i64 s, .int .i64 b, .int .i64 (s * b), .int .i64 (tabs s b), .int .i64 (logs s b), .int .i64 (logs s b + s * b), .int .i64 (s * b - 2 * b), .int .i64 0, .slice none 0 0, .slice none 0 0, .slice none 0 0])] := Hold.re H0 [1, 0] (by kernel_rfl) (by rfl)
  clear H0
  obtain ⟨dv, wv, mg, xs, ps, hDk, H2⟩ := Hold.plE H1
  replace H2 : Hold w F w [rB gp 98 ([dv, wv, .map (some mg)]), rR u8 5 dv xs, rR kW 100 wv ps, rM mg (yng ps), rB gm 80 ([.pointer (some ⟨gp, 0, none⟩), .int .i64 s, .int .i64 b, .int .i64 (s * b), .int .i64 (tabs s b), .int .i64 (logs s b), .int .i64 (logs s b + s * b), .int .i64 (s * b - 2 * b), .int .i64 0, .slice none 0 0, .slice none 0 0, .slice none 0 0])] := H2
  clear H1
  refine sq (rg (r (sa rfl) (re (sq (rg (r (sa rfl) (re (sq (sq (rg (r (sa rfl) (re (bl ?_)))))))))))))
  refine lp (α := Nat) (fun r9 ρ w' => ρ 0 = .pointer (some ⟨gm, 0, none⟩) ∧ ρ 3 = .int .i64 (bR r9) ∧ ρ 4 = .int .i64 (r9 : Int) ∧ Hold w F w' [rB gp 98 ([dv, wv, .map (some mg)]), rR u8 5 dv xs, rR kW 100 wv ps, rM mg (yng ps), rB gm 80 ([.pointer (some ⟨gp, 0, none⟩), .int .i64 s, .int .i64 b, .int .i64 (s * b), .int .i64 (tabs s b), .int .i64 (logs s b), .int .i64 (logs s b + s * b), .int .i64 (s * b - 2 * b), .int .i64 (sR r9), .slice none 0 0, .slice none 0 0, .slice none 0 0])] ∧ r9 ≤ 2) (fun r9 => 2 - r9) 0 ?_ ?_
  · exact ⟨rfl, rfl, rfl, H2, by omega⟩
  clear H2
  rintro r9 ρ w503 ⟨y0, y3, y4, H3, hr⟩
  refine sq (sq (rg (r (mv y4) (r (bi rfl rfl rfl) (re ?_)))))
  refine cp rfl (fun hlt => ?_) (fun hlt => ?_)
  · have hlx := hDk.V.len2
    have hr01 : r9 = 0 ∨ r9 = 1 := by omega
    by_cases hr0 : r9 = 0
    · have hat9 := hDk.V.at (b := 0) ⟨by omega, by rw [hDk.nb]; omega⟩
      refine sk (sq (bl (sq ?_)))
      refine rde_cut (fun ρ w' => ∃ g5 : Nat, ρ 0 = .pointer (some ⟨gm, 0, none⟩) ∧ ρ 3 = .int .i64 (bR r9) ∧ ρ 4 = .int .i64 (r9 : Int) ∧ ρ 5 = .pointer (some ⟨g5, 0, none⟩) ∧ Hold w F w' [rB gp 98 ([dv, wv, .map (some mg)]), rR u8 5 dv xs, rR kW 100 wv ps, rM mg (yng ps), rB gm 80 ([.pointer (some ⟨gp, 0, none⟩), .int .i64 s, .int .i64 b, .int .i64 (s * b), .int .i64 (tabs s b), .int .i64 (logs s b), .int .i64 (logs s b + s * b), .int .i64 (s * b - 2 * b), .int .i64 (sR r9), .slice none 0 0, .slice none 0 0, .slice none 0 0]), rB g5 71 (byts zs64)]) mixed ?_ ?_
      · intro w2 c2
        have H4 : Hold w F w2 [rB gp 98 ([dv, wv, .map (some mg)]), rR u8 5 dv xs, rR kW 100 wv ps, rM mg (yng ps), rB gm 80 ([.pointer (some ⟨gp, 0, none⟩), .int .i64 s, .int .i64 b, .int .i64 (s * b), .int .i64 (tabs s b), .int .i64 (logs s b), .int .i64 (logs s b + s * b), .int .i64 (s * b - 2 * b), .int .i64 (sR r9), .slice none 0 0, .slice none 0 0, .slice none 0 0])] := Hold.t H3 c2
        clear H3
        clear c2
        have H3d0 : Hold w2 [] w2 [] := Hold.start w2
        refine ⟨fun w' => Ch [] w2 w', Ch.refl _ _, ?_⟩
        have b4 : B w2 gm 80 ([.pointer (some ⟨gp, 0, none⟩), .int .i64 s, .int .i64 b, .int .i64 (s * b), .int .i64 (tabs s b), .int .i64 (logs s b), .int .i64 (logs s b + s * b), .int .i64 (s * b - 2 * b), .int .i64 (sR r9), .slice none 0 0, .slice none 0 0, .slice none 0 0]) := Hold.blk H4 4 rfl
        refine edt 0 rfl (by kernel_rfl) (fun w' hS => mv y0) (edt 1 rfl (by kernel_rfl) (fun w' hS => nck rfl) (edt 2 rfl (by kernel_rfl) (fun w' hS => fa Tryz.underlying80 rfl ti49 rfl rfl) (edt 3 rfl (by kernel_rfl) (fun w' hS => ldb Tryz.underlying49 rfl rfl (hS.b0 b4) rfl) (edt 4 rfl (by kernel_rfl) (fun w' hS => mv y0) (edt 5 rfl (by kernel_rfl) (fun w' hS => nck rfl) (edt 6 rfl (by kernel_rfl) (fun w' hS => fa Tryz.underlying80 rfl ti51 rfl rfl) (edt 7 rfl (by kernel_rfl) (fun w' hS => lab [.int .i64 (s * b), .int .i64 (tabs s b), .int .i64 (logs s b), .int .i64 (logs s b + s * b), .int .i64 (s * b - 2 * b)] Tryz.underlying51 rfl ti51 rfl (hS.b0 b4) rfl rfl) (edt 8 rfl (by kernel_rfl) (fun w' hS => Rn.cast (v' := .int .i64 0) (mv y4) (congrArg (Value.int .i64) (by omega))) ?_))))))))
        refine ed2 9 11 (by kernel_rfl) ?_ ?_
        · refine euc rfl go20 (ac rfl (ac rfl an)) (Places_reg (k := 0) ⟨htb.1, by omega, by omega, by omega⟩) ?_
          rintro r wr ⟨er, cr⟩
          rw [show (0 : Int) * (1 + tabs s b) = 0 by omega] at er
          subst er
          have H5d : Hold w2 [] wr [] := Hold.t H3d0 cr
          clear H3d0
          clear cr
          refine ⟨.inr (Hold.ch H5d), ?_⟩
          refine ed2 10 11 (by kernel_rfl) ?_ ?_
          · have b7 : B w2 gp 98 ([dv, wv, .map (some mg)]) := Hold.blk H4 0 rfl
            have b8 : MpI w2 mg (yng ps) := Hold.mp H4 3 rfl
            obtain ⟨_, R9⟩ : ∃ F, Kd.R u8 w2 F dv xs := Hold.row H4 1 rfl
            obtain ⟨_, R10⟩ : ∃ F, Kd.R kW w2 F wv ps := Hold.row H4 2 rfl
            refine euc rfl go39 (ac rfl (ac rfl an)) (platter_read (b := 0) ((Hold.ch H5d).b0 b7) (MpI.t (Hold.ch H5d) b8) (R9.t (Hold.ch H5d)) (R10.t (Hold.ch H5d)) (by omega) ⟨by omega, by omega⟩ (fun x hx => (hDk.V.ok x hx).2.2)) ?_
            rintro r wq ⟨er, cq9⟩
            rw [hDk.rd _ (by omega), hfr.z0] at er
            subst er
            have H6d : Hold w2 [] wq [] := Hold.t H5d cq9
            clear H5d
            clear cq9
            refine ⟨.inr (Hold.ch H6d), ?_⟩
            refine ed1 11 (by kernel_rfl) <| euf rfl (xal ti71) ?_
            rintro _ w11 ⟨g5, e11, rfl, -, b11, c11⟩
            have H7d : Hold w2 [] w11 [rB g5 71 (byts (List.replicate 64 0))] := Hold.newB H6d e11 b11 c11
            clear H6d
            clear e11 b11 c11
            refine ⟨.inr (Hold.ch H7d), ?_⟩
            have H8 : Hold w F w11 [rB gp 98 ([dv, wv, .map (some mg)]), rR u8 5 dv xs, rR kW 100 wv ps, rM mg (yng ps), rB gm 80 ([.pointer (some ⟨gp, 0, none⟩), .int .i64 s, .int .i64 b, .int .i64 (s * b), .int .i64 (tabs s b), .int .i64 (logs s b), .int .i64 (logs s b + s * b), .int .i64 (s * b - 2 * b), .int .i64 (sR r9), .slice none 0 0, .slice none 0 0, .slice none 0 0]), rB g5 71 (byts (List.replicate 64 0))] := Hold.news H4 H7d
            clear H7d H4
            have b12 : B w11 g5 71 (byts (List.replicate 64 0)) := Hold.blk H8 5 rfl
            refine ed1 12 (by kernel_rfl) <| euf0 rfl (xsta ti71 rfl rfl zs64_len b12 (by simp)) ?_
            rintro w13 ⟨-, b13, c13⟩
            have H9 : Hold w F w13 [rB gp 98 ([dv, wv, .map (some mg)]), rR u8 5 dv xs, rR kW 100 wv ps, rM mg (yng ps), rB gm 80 ([.pointer (some ⟨gp, 0, none⟩), .int .i64 s, .int .i64 b, .int .i64 (s * b), .int .i64 (tabs s b), .int .i64 (logs s b), .int .i64 (logs s b + s * b), .int .i64 (s * b - 2 * b), .int .i64 (sR r9), .slice none 0 0, .slice none 0 0, .slice none 0 0]), rB g5 71 (byts zs64)] := Hold.setB H8 5 rfl b13 c13 rfl
            clear H8
            clear b13 c13
            refine ⟨.inl (by kernel_rfl), ?_⟩
            refine edd (by kernel_rfl) ?_
            exact ⟨g5, y0, y3, y4, rfl, H9⟩
          · refine euf rfl (xal ti71) ?_
            rintro _ w6 ⟨g5, e6, rfl, -, b6, c6⟩
            have H6d : Hold w2 [] w6 [rB g5 71 (byts (List.replicate 64 0))] := Hold.newB H5d e6 b6 c6
            clear H5d
            clear e6 b6 c6
            refine ⟨.inr (Hold.ch H6d), ?_⟩
            have b8 : B w2 gp 98 ([dv, wv, .map (some mg)]) := Hold.blk H4 0 rfl
            have b9 : MpI w2 mg (yng ps) := Hold.mp H4 3 rfl
            obtain ⟨_, R10⟩ : ∃ F, Kd.R u8 w2 F dv xs := Hold.row H4 1 rfl
            obtain ⟨_, R11⟩ : ∃ F, Kd.R kW w2 F wv ps := Hold.row H4 2 rfl
            refine ed1 10 (by kernel_rfl) <| euc rfl go39 (ac rfl (ac rfl an)) (platter_read (b := 0) ((Hold.ch H6d).b0 b8) (MpI.t (Hold.ch H6d) b9) (R10.t (Hold.ch H6d)) (R11.t (Hold.ch H6d)) (by omega) ⟨by omega, by omega⟩ (fun x hx => (hDk.V.ok x hx).2.2)) ?_
            rintro r wq ⟨er, cq9⟩
            rw [hDk.rd _ (by omega), hfr.z0] at er
            subst er
            have H7d : Hold w2 [] wq [rB g5 71 (byts (List.replicate 64 0))] := Hold.t H6d cq9
            clear H6d
            clear cq9
            refine ⟨.inr (Hold.ch H7d), ?_⟩
            have H8 : Hold w F wq [rB gp 98 ([dv, wv, .map (some mg)]), rR u8 5 dv xs, rR kW 100 wv ps, rM mg (yng ps), rB gm 80 ([.pointer (some ⟨gp, 0, none⟩), .int .i64 s, .int .i64 b, .int .i64 (s * b), .int .i64 (tabs s b), .int .i64 (logs s b), .int .i64 (logs s b + s * b), .int .i64 (s * b - 2 * b), .int .i64 (sR r9), .slice none 0 0, .slice none 0 0, .slice none 0 0]), rB g5 71 (byts (List.replicate 64 0))] := Hold.news H4 H7d
            clear H7d H4
            have b12 : B wq g5 71 (byts (List.replicate 64 0)) := Hold.blk H8 5 rfl
            refine ed1 12 (by kernel_rfl) <| euf0 rfl (xsta ti71 rfl rfl zs64_len b12 (by simp)) ?_
            rintro w13 ⟨-, b13, c13⟩
            have H9 : Hold w F w13 [rB gp 98 ([dv, wv, .map (some mg)]), rR u8 5 dv xs, rR kW 100 wv ps, rM mg (yng ps), rB gm 80 ([.pointer (some ⟨gp, 0, none⟩), .int .i64 s, .int .i64 b, .int .i64 (s * b), .int .i64 (tabs s b), .int .i64 (logs s b), .int .i64 (logs s b + s * b), .int .i64 (s * b - 2 * b), .int .i64 (sR r9), .slice none 0 0, .slice none 0 0, .slice none 0 0]), rB g5 71 (byts zs64)] := Hold.setB H8 5 rfl b13 c13 rfl
            clear H8
            clear b13 c13
            refine ⟨.inl (by kernel_rfl), ?_⟩
            refine edd (by kernel_rfl) ?_
            exact ⟨g5, y0, y3, y4, rfl, H9⟩
        · refine euf rfl (xal ti71) ?_
          rintro _ w5 ⟨g5, e5, rfl, -, b5, c5⟩
          have H5d : Hold w2 [] w5 [rB g5 71 (byts (List.replicate 64 0))] := Hold.newB H3d0 e5 b5 c5
          clear H3d0
          clear e5 b5 c5
          refine ⟨.inr (Hold.ch H5d), ?_⟩
          refine ed1 9 (by kernel_rfl) <| euc rfl go20 (ac rfl (ac rfl an)) (Places_reg (k := 0) ⟨htb.1, by omega, by omega, by omega⟩) ?_
          rintro r wr ⟨er, cr⟩
          rw [show (0 : Int) * (1 + tabs s b) = 0 by omega] at er
          subst er
          have H6d : Hold w2 [] wr [rB g5 71 (byts (List.replicate 64 0))] := Hold.t H5d cr
          clear H5d
          clear cr
          refine ⟨.inr (Hold.ch H6d), ?_⟩
          have b8 : B w2 gp 98 ([dv, wv, .map (some mg)]) := Hold.blk H4 0 rfl
          have b9 : MpI w2 mg (yng ps) := Hold.mp H4 3 rfl
          obtain ⟨_, R10⟩ : ∃ F, Kd.R u8 w2 F dv xs := Hold.row H4 1 rfl
          obtain ⟨_, R11⟩ : ∃ F, Kd.R kW w2 F wv ps := Hold.row H4 2 rfl
          refine ed1 10 (by kernel_rfl) <| euc rfl go39 (ac rfl (ac rfl an)) (platter_read (b := 0) ((Hold.ch H6d).b0 b8) (MpI.t (Hold.ch H6d) b9) (R10.t (Hold.ch H6d)) (R11.t (Hold.ch H6d)) (by omega) ⟨by omega, by omega⟩ (fun x hx => (hDk.V.ok x hx).2.2)) ?_
          rintro r wq ⟨er, cq9⟩
          rw [hDk.rd _ (by omega), hfr.z0] at er
          subst er
          have H7d : Hold w2 [] wq [rB g5 71 (byts (List.replicate 64 0))] := Hold.t H6d cq9
          clear H6d
          clear cq9
          refine ⟨.inr (Hold.ch H7d), ?_⟩
          have H8 : Hold w F wq [rB gp 98 ([dv, wv, .map (some mg)]), rR u8 5 dv xs, rR kW 100 wv ps, rM mg (yng ps), rB gm 80 ([.pointer (some ⟨gp, 0, none⟩), .int .i64 s, .int .i64 b, .int .i64 (s * b), .int .i64 (tabs s b), .int .i64 (logs s b), .int .i64 (logs s b + s * b), .int .i64 (s * b - 2 * b), .int .i64 (sR r9), .slice none 0 0, .slice none 0 0, .slice none 0 0]), rB g5 71 (byts (List.replicate 64 0))] := Hold.news H4 H7d
          clear H7d H4
          have b12 : B wq g5 71 (byts (List.replicate 64 0)) := Hold.blk H8 5 rfl
          refine ed1 12 (by kernel_rfl) <| euf0 rfl (xsta ti71 rfl rfl zs64_len b12 (by simp)) ?_
          rintro w13 ⟨-, b13, c13⟩
          have H9 : Hold w F w13 [rB gp 98 ([dv, wv, .map (some mg)]), rR u8 5 dv xs, rR kW 100 wv ps, rM mg (yng ps), rB gm 80 ([.pointer (some ⟨gp, 0, none⟩), .int .i64 s, .int .i64 b, .int .i64 (s * b), .int .i64 (tabs s b), .int .i64 (logs s b), .int .i64 (logs s b + s * b), .int .i64 (s * b - 2 * b), .int .i64 (sR r9), .slice none 0 0, .slice none 0 0, .slice none 0 0]), rB g5 71 (byts zs64)] := Hold.setB H8 5 rfl b13 c13 rfl
          clear H8
          clear b13 c13
          refine ⟨.inl (by kernel_rfl), ?_⟩
          refine edd (by kernel_rfl) ?_
          exact ⟨g5, y0, y3, y4, rfl, H9⟩
      rintro ρ w553 ⟨g5, y0, y3, y4, y5, H53⟩
      clear H3
      refine sq (rg (r (sla Tryz.underlying71 ti5 y5) ?_))
      have b106 : B w553 g5 71 (byts zs64) := Hold.blk H53 5 rfl
      refine cl go40 (impl_DecodeHeader (Kd.W.R (row_of_arr (xs := zs64) b106 zs64_len (Nat.le_of_ble_eq_true rfl))) (by first | (rw [zs64_len]; omega) | (rw [encH_len]; omega)) zs64_ok) (ac rfl an) ?_
      rintro r wd ⟨er, cd⟩
      rw [decide_eq_false zs64_no, dV_no zs64_no, dV_no zs64_no, dV_no zs64_no] at er
      subst er
      have H54 : Hold w F wd [rB gp 98 ([dv, wv, .map (some mg)]), rR u8 5 dv xs, rR kW 100 wv ps, rM mg (yng ps), rB gm 80 ([.pointer (some ⟨gp, 0, none⟩), .int .i64 s, .int .i64 b, .int .i64 (s * b), .int .i64 (tabs s b), .int .i64 (logs s b), .int .i64 (logs s b + s * b), .int .i64 (s * b - 2 * b), .int .i64 (sR r9), .slice none 0 0, .slice none 0 0, .slice none 0 0]), rB g5 71 (byts zs64)] := Hold.t H53 cd
      clear H53
      clear cd
      refine ef (xal ti108) ?_
      rintro _ w107 ⟨g6, e107, rfl, -, b107, c107⟩
      have H55 : Hold w F w107 [rB gp 98 ([dv, wv, .map (some mg)]), rR u8 5 dv xs, rR kW 100 wv ps, rM mg (yng ps), rB gm 80 ([.pointer (some ⟨gp, 0, none⟩), .int .i64 s, .int .i64 b, .int .i64 (s * b), .int .i64 (tabs s b), .int .i64 (logs s b), .int .i64 (logs s b + s * b), .int .i64 (s * b - 2 * b), .int .i64 (sR r9), .slice none 0 0, .slice none 0 0, .slice none 0 0]), rB g5 71 (byts zs64), rB g6 108 ([.bool false, .int .i64 0, .int .i64 0, .int .i64 0])] := Hold.newB H54 e107 b107 c107
      clear H54
      clear e107 b107 c107
      have b108 : B w107 g6 108 ([.bool false, .int .i64 0, .int .i64 0, .int .i64 0]) := Hold.blk H55 6 rfl
      refine ef0 (xst (vs := [.bool false, .int .i64 0, .int .i64 0, .int .i64 0]) ti108 rfl rfl rfl b108 rfl (Nat.le_of_ble_eq_true rfl) (one_all rfl)) ?_
      rintro w109 ⟨-, b109, c109⟩
      have H56 : Hold w F w109 [rB gp 98 ([dv, wv, .map (some mg)]), rR u8 5 dv xs, rR kW 100 wv ps, rM mg (yng ps), rB gm 80 ([.pointer (some ⟨gp, 0, none⟩), .int .i64 s, .int .i64 b, .int .i64 (s * b), .int .i64 (tabs s b), .int .i64 (logs s b), .int .i64 (logs s b + s * b), .int .i64 (s * b - 2 * b), .int .i64 (sR r9), .slice none 0 0, .slice none 0 0, .slice none 0 0]), rB g5 71 (byts zs64), rB g6 108 ([.bool false, .int .i64 0, .int .i64 0, .int .i64 0])] := Hold.setB H55 6 rfl b109 c109 rfl
      clear H55
      clear b109 c109
      have b110 : B w109 g6 108 ([.bool false, .int .i64 0, .int .i64 0, .int .i64 0]) := Hold.blk H56 6 rfl
      refine re (sq (rd mixed (by kernel_rfl) (q (fa Tryz.underlying108 rfl ti4 rfl rfl) (q (ldb Tryz.underlying4 rfl rfl b110 rfl) (q (Rn.cast (v' := .bool false) (mv rfl) rfl) (gnq rfl rfl rfl (gnq rfl rfl rfl (gnq rfl rfl rfl (gnq rfl rfl rfl (gnq rfl rfl rfl (gnq rfl rfl rfl (gnq rfl rfl rfl (gnq rfl rfl rfl (gnq rfl rfl rfl (q (Rn.cast (v' := .bool false) (pk rfl rfl) rfl) (q (Rn.cast (v' := .bool false) (mv rfl) rfl) (gnq rfl rfl rfl (gnq rfl rfl rfl (gnq rfl rfl rfl (gnq rfl rfl rfl (gnq rfl rfl rfl (gnq rfl rfl rfl (gnq rfl rfl rfl (gnq rfl rfl rfl (gnq rfl rfl rfl (q (Rn.cast (v' := .bool false) (pk rfl rfl) rfl) (q (Rn.cast (v' := .bool false) (mv rfl) rfl) (gnq rfl rfl rfl (gnq rfl rfl rfl (gnq rfl rfl rfl (gnq rfl rfl rfl (gnq rfl rfl rfl (gnq rfl rfl rfl (q (Rn.cast (v' := .bool false) (pk rfl rfl) rfl) (q (Rn.cast (v' := .bool false) (mv rfl) rfl) (gnq rfl rfl rfl (gnq rfl rfl rfl (gnq rfl rfl rfl (gnq rfl rfl rfl (gnq rfl rfl rfl (gnq rfl rfl rfl (gnq rfl rfl rfl (gnq rfl rfl rfl (q (Rn.cast (v' := .bool false) (pk rfl rfl) rfl) (me ?_)))))))))))))))))))))))))))))))))))))))))))))
      intro w1 c1
      have H57 : Hold w F w1 [rB gp 98 ([dv, wv, .map (some mg)]), rR u8 5 dv xs, rR kW 100 wv ps, rM mg (yng ps), rB gm 80 ([.pointer (some ⟨gp, 0, none⟩), .int .i64 s, .int .i64 b, .int .i64 (s * b), .int .i64 (tabs s b), .int .i64 (logs s b), .int .i64 (logs s b + s * b), .int .i64 (s * b - 2 * b), .int .i64 (sR r9), .slice none 0 0, .slice none 0 0, .slice none 0 0]), rB g5 71 (byts zs64), rB g6 108 ([.bool false, .int .i64 0, .int .i64 0, .int .i64 0])] := Hold.t H56 c1
      clear H56
      refine cf rfl (sk (be ?_))
      refine gen (fun ρ => ρ 0 = .pointer (some ⟨gm, 0, none⟩) ∧ ρ 3 = .int .i64 (bR r9) ∧ ρ 4 = .int .i64 (r9 : Int) ∧ True) ⟨y0, y3, y4, trivial⟩ ?_
      rintro ρ ⟨z0, z3, z4, -⟩
      refine rg (r (mv z4) (r (ad (a := (r9 : Int)) (b := 1) ((r9 : Int) + 1) rfl rfl (by omega)) (r (sa rfl) (re ?_))))
      have H58 : Hold w F w1 [rB gp 98 ([dv, wv, .map (some mg)]), rR u8 5 dv xs, rR kW 100 wv ps, rM mg (yng ps), rB gm 80 ([.pointer (some ⟨gp, 0, none⟩), .int .i64 s, .int .i64 b, .int .i64 (s * b), .int .i64 (tabs s b), .int .i64 (logs s b), .int .i64 (logs s b + s * b), .int .i64 (s * b - 2 * b), .int .i64 (sR r9), .slice none 0 0, .slice none 0 0, .slice none 0 0])] := (show Hold w F w1 ([rB gp 98 ([dv, wv, .map (some mg)]), rR u8 5 dv xs, rR kW 100 wv ps, rM mg (yng ps), rB gm 80 ([.pointer (some ⟨gp, 0, none⟩), .int .i64 s, .int .i64 b, .int .i64 (s * b), .int .i64 (tabs s b), .int .i64 (logs s b), .int .i64 (logs s b + s * b), .int .i64 (s * b - 2 * b), .int .i64 (sR r9), .slice none 0 0, .slice none 0 0, .slice none 0 0])] ++ [rB g5 71 (byts zs64), rB g6 108 ([.bool false, .int .i64 0, .int .i64 0, .int .i64 0])]) from Hold.re H57 [0, 1, 2, 3, 4, 5, 6] (by kernel_rfl) (by rfl)).drop
      clear H57
      exact ag (r9 + 1) ⟨z0, (z3.trans (congrArg (Value.int .i64) (by rw [hr0]; rfl))), rfl, (by rw [show sR (r9 + 1) = sR r9 by rw [hr0]; rfl]; exact H58), by omega⟩ (by first | omega | (dsimp only; omega))
    · have hr0 : r9 = 1 := by omega
      have hat9 := hDk.V.at (b := 1 + tabs s b) ⟨by omega, by rw [hDk.nb]; omega⟩
      refine sk (sq (bl (sq ?_)))
      refine rde_cut (fun ρ w' => ∃ g5 : Nat, ρ 0 = .pointer (some ⟨gm, 0, none⟩) ∧ ρ 3 = .int .i64 (bR r9) ∧ ρ 4 = .int .i64 (r9 : Int) ∧ ρ 5 = .pointer (some ⟨g5, 0, none⟩) ∧ Hold w F w' [rB gp 98 ([dv, wv, .map (some mg)]), rR u8 5 dv xs, rR kW 100 wv ps, rM mg (yng ps), rB gm 80 ([.pointer (some ⟨gp, 0, none⟩), .int .i64 s, .int .i64 b, .int .i64 (s * b), .int .i64 (tabs s b), .int .i64 (logs s b), .int .i64 (logs s b + s * b), .int .i64 (s * b - 2 * b), .int .i64 (sR r9), .slice none 0 0, .slice none 0 0, .slice none 0 0]), rB g5 71 (byts (encH 1 s b))]) mixed ?_ ?_
      · intro w2 c2
        have H4 : Hold w F w2 [rB gp 98 ([dv, wv, .map (some mg)]), rR u8 5 dv xs, rR kW 100 wv ps, rM mg (yng ps), rB gm 80 ([.pointer (some ⟨gp, 0, none⟩), .int .i64 s, .int .i64 b, .int .i64 (s * b), .int .i64 (tabs s b), .int .i64 (logs s b), .int .i64 (logs s b + s * b), .int .i64 (s * b - 2 * b), .int .i64 (sR r9), .slice none 0 0, .slice none 0 0, .slice none 0 0])] := Hold.t H3 c2
        clear H3
        clear c2
        have H3d0 : Hold w2 [] w2 [] := Hold.start w2
        refine ⟨fun w' => Ch [] w2 w', Ch.refl _ _, ?_⟩
        have b4 : B w2 gm 80 ([.pointer (some ⟨gp, 0, none⟩), .int .i64 s, .int .i64 b, .int .i64 (s * b), .int .i64 (tabs s b), .int .i64 (logs s b), .int .i64 (logs s b + s * b), .int .i64 (s * b - 2 * b), .int .i64 (sR r9), .slice none 0 0, .slice none 0 0, .slice none 0 0]) := Hold.blk H4 4 rfl
        refine edt 0 rfl (by kernel_rfl) (fun w' hS => mv y0) (edt 1 rfl (by kernel_rfl) (fun w' hS => nck rfl) (edt 2 rfl (by kernel_rfl) (fun w' hS => fa Tryz.underlying80 rfl ti49 rfl rfl) (edt 3 rfl (by kernel_rfl) (fun w' hS => ldb Tryz.underlying49 rfl rfl (hS.b0 b4) rfl) (edt 4 rfl (by kernel_rfl) (fun w' hS => mv y0) (edt 5 rfl (by kernel_rfl) (fun w' hS => nck rfl) (edt 6 rfl (by kernel_rfl) (fun w' hS => fa Tryz.underlying80 rfl ti51 rfl rfl) (edt 7 rfl (by kernel_rfl) (fun w' hS => lab [.int .i64 (s * b), .int .i64 (tabs s b), .int .i64 (logs s b), .int .i64 (logs s b + s * b), .int .i64 (s * b - 2 * b)] Tryz.underlying51 rfl ti51 rfl (hS.b0 b4) rfl rfl) (edt 8 rfl (by kernel_rfl) (fun w' hS => Rn.cast (v' := .int .i64 1) (mv y4) (congrArg (Value.int .i64) (by omega))) ?_))))))))
        refine ed2 9 11 (by kernel_rfl) ?_ ?_
        · refine euc rfl go20 (ac rfl (ac rfl an)) (Places_reg (k := 1) ⟨htb.1, by omega, by omega, by omega⟩) ?_
          rintro r wr ⟨er, cr⟩
          rw [show (1 : Int) * (1 + tabs s b) = 1 + tabs s b by omega] at er
          subst er
          have H5d : Hold w2 [] wr [] := Hold.t H3d0 cr
          clear H3d0
          clear cr
          refine ⟨.inr (Hold.ch H5d), ?_⟩
          refine ed2 10 11 (by kernel_rfl) ?_ ?_
          · have b7 : B w2 gp 98 ([dv, wv, .map (some mg)]) := Hold.blk H4 0 rfl
            have b8 : MpI w2 mg (yng ps) := Hold.mp H4 3 rfl
            obtain ⟨_, R9⟩ : ∃ F, Kd.R u8 w2 F dv xs := Hold.row H4 1 rfl
            obtain ⟨_, R10⟩ : ∃ F, Kd.R kW w2 F wv ps := Hold.row H4 2 rfl
            refine euc rfl go39 (ac rfl (ac rfl an)) (platter_read (b := 1 + tabs s b) ((Hold.ch H5d).b0 b7) (MpI.t (Hold.ch H5d) b8) (R9.t (Hold.ch H5d)) (R10.t (Hold.ch H5d)) (by omega) ⟨by omega, by omega⟩ (fun x hx => (hDk.V.ok x hx).2.2)) ?_
            rintro r wq ⟨er, cq9⟩
            rw [hDk.rd _ (by omega), hfr.z1] at er
            subst er
            have H6d : Hold w2 [] wq [] := Hold.t H5d cq9
            clear H5d
            clear cq9
            refine ⟨.inr (Hold.ch H6d), ?_⟩
            refine ed1 11 (by kernel_rfl) <| euf rfl (xal ti71) ?_
            rintro _ w11 ⟨g5, e11, rfl, -, b11, c11⟩
            have H7d : Hold w2 [] w11 [rB g5 71 (byts (List.replicate 64 0))] := Hold.newB H6d e11 b11 c11
            clear H6d
            clear e11 b11 c11
            refine ⟨.inr (Hold.ch H7d), ?_⟩
            have H8 : Hold w F w11 [rB gp 98 ([dv, wv, .map (some mg)]), rR u8 5 dv xs, rR kW 100 wv ps, rM mg (yng ps), rB gm 80 ([.pointer (some ⟨gp, 0, none⟩), .int .i64 s, .int .i64 b, .int .i64 (s * b), .int .i64 (tabs s b), .int .i64 (logs s b), .int .i64 (logs s b + s * b), .int .i64 (s * b - 2 * b), .int .i64 (sR r9), .slice none 0 0, .slice none 0 0, .slice none 0 0]), rB g5 71 (byts (List.replicate 64 0))] := Hold.news H4 H7d
            clear H7d H4
            have b12 : B w11 g5 71 (byts (List.replicate 64 0)) := Hold.blk H8 5 rfl
            refine ed1 12 (by kernel_rfl) <| euf0 rfl (xsta ti71 rfl rfl (encH_len 1 s b) b12 (by simp)) ?_
            rintro w13 ⟨-, b13, c13⟩
            have H9 : Hold w F w13 [rB gp 98 ([dv, wv, .map (some mg)]), rR u8 5 dv xs, rR kW 100 wv ps, rM mg (yng ps), rB gm 80 ([.pointer (some ⟨gp, 0, none⟩), .int .i64 s, .int .i64 b, .int .i64 (s * b), .int .i64 (tabs s b), .int .i64 (logs s b), .int .i64 (logs s b + s * b), .int .i64 (s * b - 2 * b), .int .i64 (sR r9), .slice none 0 0, .slice none 0 0, .slice none 0 0]), rB g5 71 (byts (encH 1 s b))] := Hold.setB H8 5 rfl b13 c13 rfl
            clear H8
            clear b13 c13
            refine ⟨.inl (by kernel_rfl), ?_⟩
            refine edd (by kernel_rfl) ?_
            exact ⟨g5, y0, y3, y4, rfl, H9⟩
          · refine euf rfl (xal ti71) ?_
            rintro _ w6 ⟨g5, e6, rfl, -, b6, c6⟩
            have H6d : Hold w2 [] w6 [rB g5 71 (byts (List.replicate 64 0))] := Hold.newB H5d e6 b6 c6
            clear H5d
            clear e6 b6 c6
            refine ⟨.inr (Hold.ch H6d), ?_⟩
            have b8 : B w2 gp 98 ([dv, wv, .map (some mg)]) := Hold.blk H4 0 rfl
            have b9 : MpI w2 mg (yng ps) := Hold.mp H4 3 rfl
            obtain ⟨_, R10⟩ : ∃ F, Kd.R u8 w2 F dv xs := Hold.row H4 1 rfl
            obtain ⟨_, R11⟩ : ∃ F, Kd.R kW w2 F wv ps := Hold.row H4 2 rfl
            refine ed1 10 (by kernel_rfl) <| euc rfl go39 (ac rfl (ac rfl an)) (platter_read (b := 1 + tabs s b) ((Hold.ch H6d).b0 b8) (MpI.t (Hold.ch H6d) b9) (R10.t (Hold.ch H6d)) (R11.t (Hold.ch H6d)) (by omega) ⟨by omega, by omega⟩ (fun x hx => (hDk.V.ok x hx).2.2)) ?_
            rintro r wq ⟨er, cq9⟩
            rw [hDk.rd _ (by omega), hfr.z1] at er
            subst er
            have H7d : Hold w2 [] wq [rB g5 71 (byts (List.replicate 64 0))] := Hold.t H6d cq9
            clear H6d
            clear cq9
            refine ⟨.inr (Hold.ch H7d), ?_⟩
            have H8 : Hold w F wq [rB gp 98 ([dv, wv, .map (some mg)]), rR u8 5 dv xs, rR kW 100 wv ps, rM mg (yng ps), rB gm 80 ([.pointer (some ⟨gp, 0, none⟩), .int .i64 s, .int .i64 b, .int .i64 (s * b), .int .i64 (tabs s b), .int .i64 (logs s b), .int .i64 (logs s b + s * b), .int .i64 (s * b - 2 * b), .int .i64 (sR r9), .slice none 0 0, .slice none 0 0, .slice none 0 0]), rB g5 71 (byts (List.replicate 64 0))] := Hold.news H4 H7d
            clear H7d H4
            have b12 : B wq g5 71 (byts (List.replicate 64 0)) := Hold.blk H8 5 rfl
            refine ed1 12 (by kernel_rfl) <| euf0 rfl (xsta ti71 rfl rfl (encH_len 1 s b) b12 (by simp)) ?_
            rintro w13 ⟨-, b13, c13⟩
            have H9 : Hold w F w13 [rB gp 98 ([dv, wv, .map (some mg)]), rR u8 5 dv xs, rR kW 100 wv ps, rM mg (yng ps), rB gm 80 ([.pointer (some ⟨gp, 0, none⟩), .int .i64 s, .int .i64 b, .int .i64 (s * b), .int .i64 (tabs s b), .int .i64 (logs s b), .int .i64 (logs s b + s * b), .int .i64 (s * b - 2 * b), .int .i64 (sR r9), .slice none 0 0, .slice none 0 0, .slice none 0 0]), rB g5 71 (byts (encH 1 s b))] := Hold.setB H8 5 rfl b13 c13 rfl
            clear H8
            clear b13 c13
            refine ⟨.inl (by kernel_rfl), ?_⟩
            refine edd (by kernel_rfl) ?_
            exact ⟨g5, y0, y3, y4, rfl, H9⟩
        · refine euf rfl (xal ti71) ?_
          rintro _ w5 ⟨g5, e5, rfl, -, b5, c5⟩
          have H5d : Hold w2 [] w5 [rB g5 71 (byts (List.replicate 64 0))] := Hold.newB H3d0 e5 b5 c5
          clear H3d0
          clear e5 b5 c5
          refine ⟨.inr (Hold.ch H5d), ?_⟩
          refine ed1 9 (by kernel_rfl) <| euc rfl go20 (ac rfl (ac rfl an)) (Places_reg (k := 1) ⟨htb.1, by omega, by omega, by omega⟩) ?_
          rintro r wr ⟨er, cr⟩
          rw [show (1 : Int) * (1 + tabs s b) = 1 + tabs s b by omega] at er
          subst er
          have H6d : Hold w2 [] wr [rB g5 71 (byts (List.replicate 64 0))] := Hold.t H5d cr
          clear H5d
          clear cr
          refine ⟨.inr (Hold.ch H6d), ?_⟩
          have b8 : B w2 gp 98 ([dv, wv, .map (some mg)]) := Hold.blk H4 0 rfl
          have b9 : MpI w2 mg (yng ps) := Hold.mp H4 3 rfl
          obtain ⟨_, R10⟩ : ∃ F, Kd.R u8 w2 F dv xs := Hold.row H4 1 rfl
          obtain ⟨_, R11⟩ : ∃ F, Kd.R kW w2 F wv ps := Hold.row H4 2 rfl
          refine ed1 10 (by kernel_rfl) <| euc rfl go39 (ac rfl (ac rfl an)) (platter_read (b := 1 + tabs s b) ((Hold.ch H6d).b0 b8) (MpI.t (Hold.ch H6d) b9) (R10.t (Hold.ch H6d)) (R11.t (Hold.ch H6d)) (by omega) ⟨by omega, by omega⟩ (fun x hx => (hDk.V.ok x hx).2.2)) ?_
          rintro r wq ⟨er, cq9⟩
          rw [hDk.rd _ (by omega), hfr.z1] at er
          subst er
          have H7d : Hold w2 [] wq [rB g5 71 (byts (List.replicate 64 0))] := Hold.t H6d cq9
          clear H6d
          clear cq9
          refine ⟨.inr (Hold.ch H7d), ?_⟩
          have H8 : Hold w F wq [rB gp 98 ([dv, wv, .map (some mg)]), rR u8 5 dv xs, rR kW 100 wv ps, rM mg (yng ps), rB gm 80 ([.pointer (some ⟨gp, 0, none⟩), .int .i64 s, .int .i64 b, .int .i64 (s * b), .int .i64 (tabs s b), .int .i64 (logs s b), .int .i64 (logs s b + s * b), .int .i64 (s * b - 2 * b), .int .i64 (sR r9), .slice none 0 0, .slice none 0 0, .slice none 0 0]), rB g5 71 (byts (List.replicate 64 0))] := Hold.news H4 H7d
          clear H7d H4
          have b12 : B wq g5 71 (byts (List.replicate 64 0)) := Hold.blk H8 5 rfl
          refine ed1 12 (by kernel_rfl) <| euf0 rfl (xsta ti71 rfl rfl (encH_len 1 s b) b12 (by simp)) ?_
          rintro w13 ⟨-, b13, c13⟩
          have H9 : Hold w F w13 [rB gp 98 ([dv, wv, .map (some mg)]), rR u8 5 dv xs, rR kW 100 wv ps, rM mg (yng ps), rB gm 80 ([.pointer (some ⟨gp, 0, none⟩), .int .i64 s, .int .i64 b, .int .i64 (s * b), .int .i64 (tabs s b), .int .i64 (logs s b), .int .i64 (logs s b + s * b), .int .i64 (s * b - 2 * b), .int .i64 (sR r9), .slice none 0 0, .slice none 0 0, .slice none 0 0]), rB g5 71 (byts (encH 1 s b))] := Hold.setB H8 5 rfl b13 c13 rfl
          clear H8
          clear b13 c13
          refine ⟨.inl (by kernel_rfl), ?_⟩
          refine edd (by kernel_rfl) ?_
          exact ⟨g5, y0, y3, y4, rfl, H9⟩
      rintro ρ w553 ⟨g5, y0, y3, y4, y5, H53⟩
      clear H3
      refine sq (rg (r (sla Tryz.underlying71 ti5 y5) ?_))
      have b106 : B w553 g5 71 (byts (encH 1 s b)) := Hold.blk H53 5 rfl
      refine cl go40 (impl_DecodeHeader (Kd.W.R (row_of_arr (xs := (encH 1 s b)) b106 (encH_len 1 s b) (Nat.le_of_ble_eq_true rfl))) (by first | (rw [zs64_len]; omega) | (rw [encH_len]; omega)) (ok8_encH 1 s b)) (ac rfl an) ?_
      rintro r wd ⟨er, cd⟩
      rw [decide_eq_true (encH_dec hH), dV_yes (encH_dec hH), dV_yes (encH_dec hH), dV_yes (encH_dec hH), (encH_hq hH).1, (encH_hq hH).2.1, (encH_hq hH).2.2] at er
      subst er
      have H54 : Hold w F wd [rB gp 98 ([dv, wv, .map (some mg)]), rR u8 5 dv xs, rR kW 100 wv ps, rM mg (yng ps), rB gm 80 ([.pointer (some ⟨gp, 0, none⟩), .int .i64 s, .int .i64 b, .int .i64 (s * b), .int .i64 (tabs s b), .int .i64 (logs s b), .int .i64 (logs s b + s * b), .int .i64 (s * b - 2 * b), .int .i64 (sR r9), .slice none 0 0, .slice none 0 0, .slice none 0 0]), rB g5 71 (byts (encH 1 s b))] := Hold.t H53 cd
      clear H53
      clear cd
      refine ef (xal ti108) ?_
      rintro _ w107 ⟨g6, e107, rfl, -, b107, c107⟩
      have H55 : Hold w F w107 [rB gp 98 ([dv, wv, .map (some mg)]), rR u8 5 dv xs, rR kW 100 wv ps, rM mg (yng ps), rB gm 80 ([.pointer (some ⟨gp, 0, none⟩), .int .i64 s, .int .i64 b, .int .i64 (s * b), .int .i64 (tabs s b), .int .i64 (logs s b), .int .i64 (logs s b + s * b), .int .i64 (s * b - 2 * b), .int .i64 (sR r9), .slice none 0 0, .slice none 0 0, .slice none 0 0]), rB g5 71 (byts (encH 1 s b)), rB g6 108 ([.bool false, .int .i64 0, .int .i64 0, .int .i64 0])] := Hold.newB H54 e107 b107 c107
      clear H54
      clear e107 b107 c107
      have b108 : B w107 g6 108 ([.bool false, .int .i64 0, .int .i64 0, .int .i64 0]) := Hold.blk H55 6 rfl
      refine ef0 (xst (vs := [.bool true, .int .i64 1, .int .i64 s, .int .i64 b]) ti108 rfl rfl rfl b108 rfl (Nat.le_of_ble_eq_true rfl) (one_all rfl)) ?_
      rintro w109 ⟨-, b109, c109⟩
      have H56 : Hold w F w109 [rB gp 98 ([dv, wv, .map (some mg)]), rR u8 5 dv xs, rR kW 100 wv ps, rM mg (yng ps), rB gm 80 ([.pointer (some ⟨gp, 0, none⟩), .int .i64 s, .int .i64 b, .int .i64 (s * b), .int .i64 (tabs s b), .int .i64 (logs s b), .int .i64 (logs s b + s * b), .int .i64 (s * b - 2 * b), .int .i64 (sR r9), .slice none 0 0, .slice none 0 0, .slice none 0 0]), rB g5 71 (byts (encH 1 s b)), rB g6 108 ([.bool true, .int .i64 1, .int .i64 s, .int .i64 b])] := Hold.setB H55 6 rfl b109 c109 rfl
      clear H55
      clear b109 c109
      have b110 : B w109 g6 108 ([.bool true, .int .i64 1, .int .i64 s, .int .i64 b]) := Hold.blk H56 6 rfl
      have b111 : B w109 gm 80 ([.pointer (some ⟨gp, 0, none⟩), .int .i64 s, .int .i64 b, .int .i64 (s * b), .int .i64 (tabs s b), .int .i64 (logs s b), .int .i64 (logs s b + s * b), .int .i64 (s * b - 2 * b), .int .i64 (sR r9), .slice none 0 0, .slice none 0 0, .slice none 0 0]) := Hold.blk H56 4 rfl
      refine re (sq (rd mixed (by kernel_rfl) (q (fa Tryz.underlying108 rfl ti4 rfl rfl) (q (ldb Tryz.underlying4 rfl rfl b110 rfl) (q (Rn.cast (v' := .bool true) (mv rfl) rfl) (gyq rfl rfl rfl (q (fa Tryz.underlying108 rfl ti73 rfl rfl) (gyq rfl rfl rfl (q (fa Tryz.underlying73 rfl ti2 rfl rfl) (gyq rfl rfl rfl (q (ldb Tryz.underlying2 rfl rfl b110 rfl) (gyq rfl rfl rfl (q (mv y0) (gyq rfl rfl rfl (q (nck rfl) (gyq rfl rfl rfl (q (fa Tryz.underlying80 rfl ti25 rfl rfl) (gyq rfl rfl rfl (q (fa Tryz.underlying25 rfl ti2 rfl rfl) (gyq rfl rfl rfl (q (ldb Tryz.underlying2 rfl rfl b111 rfl) (gyq rfl rfl rfl (q (Rn.cast (v' := .bool true) (bi rfl rfl rfl) (congrArg Value.bool (by simp))) (q (Rn.cast (v' := .bool true) (pk rfl rfl) rfl) (q (Rn.cast (v' := .bool true) (mv rfl) rfl) (gyq rfl rfl rfl (q (fa Tryz.underlying108 rfl ti73 rfl rfl) (gyq rfl rfl rfl (q (fa Tryz.underlying73 rfl ti2 rfl rfl) (gyq rfl rfl rfl (q (ldb Tryz.underlying2 rfl rfl b110 rfl) (gyq rfl rfl rfl (q (mv y0) (gyq rfl rfl rfl (q (nck rfl) (gyq rfl rfl rfl (q (fa Tryz.underlying80 rfl ti25 rfl rfl) (gyq rfl rfl rfl (q (fa Tryz.underlying25 rfl ti2 rfl rfl) (gyq rfl rfl rfl (q (ldb Tryz.underlying2 rfl rfl b111 rfl) (gyq rfl rfl rfl (q (Rn.cast (v' := .bool true) (bi rfl rfl rfl) (congrArg Value.bool (by simp))) (q (Rn.cast (v' := .bool true) (pk rfl rfl) rfl) (q (Rn.cast (v' := .bool true) (mv rfl) rfl) (gyq rfl rfl rfl (q (fa Tryz.underlying108 rfl ti73 rfl rfl) (gyq rfl rfl rfl (q (fa Tryz.underlying73 rfl ti2 rfl rfl) (gyq rfl rfl rfl (q (ldb Tryz.underlying2 rfl rfl b110 rfl) (gyq rfl rfl rfl (q (rm (a := 1) (b := 2) (1) rfl rfl ⟨by omega, rfl⟩) (gyq rfl rfl rfl (q (Rn.cast (v' := .int .i64 1) (mv y4) (congrArg (Value.int .i64) (by omega))) (gyq rfl rfl rfl (q (Rn.cast (v' := .bool true) (bi rfl rfl rfl) (congrArg Value.bool (by simp))) (q (Rn.cast (v' := .bool true) (pk rfl rfl) rfl) (q (Rn.cast (v' := .bool true) (mv rfl) rfl) (gyq rfl rfl rfl (q (fa Tryz.underlying108 rfl ti73 rfl rfl) (gyq rfl rfl rfl (q (fa Tryz.underlying73 rfl ti2 rfl rfl) (gyq rfl rfl rfl (q (ldb Tryz.underlying2 rfl rfl b110 rfl) (gyq rfl rfl rfl (q (mv y0) (gyq rfl rfl rfl (q (nck rfl) (gyq rfl rfl rfl (q (fa Tryz.underlying80 rfl ti2 rfl rfl) (gyq rfl rfl rfl (q (Rn.cast (v' := .int .i64 0) (ldb Tryz.underlying2 rfl rfl b111 rfl) (congrArg (Value.int .i64) (by rw [hr0]; rfl))) (gyq rfl rfl rfl (q (Rn.cast (v' := .bool true) (bi rfl rfl rfl) (congrArg Value.bool (by simp))) (q (Rn.cast (v' := .bool true) (pk rfl rfl) rfl) (me ?_)))))))))))))))))))))))))))))))))))))))))))))))))))))))))))))))))))))))))))))
      intro w1 c1
      have H57 : Hold w F w1 [rB gp 98 ([dv, wv, .map (some mg)]), rR u8 5 dv xs, rR kW 100 wv ps, rM mg (yng ps), rB gm 80 ([.pointer (some ⟨gp, 0, none⟩), .int .i64 s, .int .i64 b, .int .i64 (s * b), .int .i64 (tabs s b), .int .i64 (logs s b), .int .i64 (logs s b + s * b), .int .i64 (s * b - 2 * b), .int .i64 (sR r9), .slice none 0 0, .slice none 0 0, .slice none 0 0]), rB g5 71 (byts (encH 1 s b)), rB g6 108 ([.bool true, .int .i64 1, .int .i64 s, .int .i64 b])] := Hold.t H56 c1
      clear H56
      refine ct rfl ?_
      refine gen (fun ρ => ρ 0 = .pointer (some ⟨gm, 0, none⟩) ∧ ρ 3 = .int .i64 (bR r9) ∧ ρ 4 = .int .i64 (r9 : Int) ∧ ρ 6 = .pointer (some ⟨g6, 0, none⟩) ∧ True) ⟨y0, y3, y4, rfl, trivial⟩ ?_
      rintro ρ ⟨z0, z3, z4, z6, -⟩
      refine rde mixed ?_
      intro w112 c112
      have H58 : Hold w F w112 [rB gp 98 ([dv, wv, .map (some mg)]), rR u8 5 dv xs, rR kW 100 wv ps, rM mg (yng ps), rB gm 80 ([.pointer (some ⟨gp, 0, none⟩), .int .i64 s, .int .i64 b, .int .i64 (s * b), .int .i64 (tabs s b), .int .i64 (logs s b), .int .i64 (logs s b + s * b), .int .i64 (s * b - 2 * b), .int .i64 (sR r9), .slice none 0 0, .slice none 0 0, .slice none 0 0]), rB g5 71 (byts (encH 1 s b)), rB g6 108 ([.bool true, .int .i64 1, .int .i64 s, .int .i64 b])] := Hold.t H57 c112
      clear H57
      clear c112
      have H59 : Hold w F w112 [rB gm 80 ([.pointer (some ⟨gp, 0, none⟩), .int .i64 s, .int .i64 b, .int .i64 (s * b), .int .i64 (tabs s b), .int .i64 (logs s b), .int .i64 (logs s b + s * b), .int .i64 (s * b - 2 * b), .int .i64 (sR r9), .slice none 0 0, .slice none 0 0, .slice none 0 0]), rB gp 98 ([dv, wv, .map (some mg)]), rR u8 5 dv xs, rR kW 100 wv ps, rM mg (yng ps), rB g5 71 (byts (encH 1 s b)), rB g6 108 ([.bool true, .int .i64 1, .int .i64 s, .int .i64 b])] := Hold.re H58 [4, 0, 1, 2, 3, 5, 6] (by kernel_rfl) (by rfl)
      clear H58
      obtain ⟨Fd113, hFd113, nd113, Kd113, Xd113, sd113⟩ := Hold.frontx (Γ := [rB gm 80 ([.pointer (some ⟨gp, 0, none⟩), .int .i64 s, .int .i64 b, .int .i64 (s * b), .int .i64 (tabs s b), .int .i64 (logs s b), .int .i64 (logs s b + s * b), .int .i64 (s * b - 2 * b), .int .i64 (sR r9), .slice none 0 0, .slice none 0 0, .slice none 0 0])]) (Δ := [rB gp 98 ([dv, wv, .map (some mg)]), rR u8 5 dv xs, rR kW 100 wv ps, rM mg (yng ps), rB g5 71 (byts (encH 1 s b)), rB g6 108 ([.bool true, .int .i64 1, .int .i64 s, .int .i64 b])]) H59
      have H113d0 : Hold w112 Fd113 w112 [rB gm 80 ([.pointer (some ⟨gp, 0, none⟩), .int .i64 s, .int .i64 b, .int .i64 (s * b), .int .i64 (tabs s b), .int .i64 (logs s b), .int .i64 (logs s b + s * b), .int .i64 (s * b - 2 * b), .int .i64 (sR r9), .slice none 0 0, .slice none 0 0, .slice none 0 0])] := Hold.begin hFd113 nd113
      refine ⟨fun w' => Ch Fd113 w112 w', Ch.refl _ _, ?_⟩
      obtain ⟨_, ⟨rfl, b114⟩, x114⟩ := Xd113 5 (rB g6 108 ([.bool true, .int .i64 1, .int .i64 s, .int .i64 b])) rfl
      have H60 : Hold w F w112 [rB gm 80 ([.pointer (some ⟨gp, 0, none⟩), .int .i64 s, .int .i64 b, .int .i64 (s * b), .int .i64 (tabs s b), .int .i64 (logs s b), .int .i64 (logs s b + s * b), .int .i64 (s * b - 2 * b), .int .i64 (sR r9), .slice none 0 0, .slice none 0 0, .slice none 0 0]), rB gp 98 ([dv, wv, .map (some mg)]), rR u8 5 dv xs, rR kW 100 wv ps, rM mg (yng ps), rB g5 71 (byts (encH 1 s b)), rB g6 108 ([.bool true, .int .i64 1, .int .i64 s, .int .i64 b])] := Hold.call Kd113 H113d0
      clear H113d0 H59
      have b115 : B w112 gm 80 ([.pointer (some ⟨gp, 0, none⟩), .int .i64 s, .int .i64 b, .int .i64 (s * b), .int .i64 (tabs s b), .int .i64 (logs s b), .int .i64 (logs s b + s * b), .int .i64 (s * b - 2 * b), .int .i64 (sR r9), .slice none 0 0, .slice none 0 0, .slice none 0 0]) := Hold.blk H60 0 rfl
      refine edt 0 rfl (by kernel_rfl) (fun w' hS => mv z0) (edt 1 rfl (by kernel_rfl) (fun w' hS => Rn.cast (v' := .int .i64 1) (mv z4) (congrArg (Value.int .i64) (by omega))) (edt 2 rfl (by kernel_rfl) (fun w' hS => fa Tryz.underlying108 rfl ti73 rfl z6) (edt 3 rfl (by kernel_rfl) (fun w' hS => fa Tryz.underlying73 rfl ti2 rfl rfl) (edt 4 rfl (by kernel_rfl) (fun w' hS => ldb Tryz.underlying2 rfl rfl (hS.b b114 (x114 _ (by simp))) rfl) (edt 5 rfl (by kernel_rfl) (fun w' hS => sa rfl) (edt 6 rfl (by kernel_rfl) (fun w' hS => nck rfl) (edt 7 rfl (by kernel_rfl) (fun w' hS => fa Tryz.underlying80 rfl ti2 rfl rfl) (ed1 8 (by kernel_rfl) <| euf0 rfl (xst (vs := [.int .i64 1]) ti2 rfl rfl (cel1 rfl) b115 rfl (Nat.le_of_ble_eq_true rfl) (one_all rfl)) ?_))))))))
      rintro w116 ⟨-, b116, c116⟩
      have H61 : Hold w F w116 [rB gm 80 ([.pointer (some ⟨gp, 0, none⟩), .int .i64 s, .int .i64 b, .int .i64 (s * b), .int .i64 (tabs s b), .int .i64 (logs s b), .int .i64 (logs s b + s * b), .int .i64 (s * b - 2 * b), .int .i64 1, .slice none 0 0, .slice none 0 0, .slice none 0 0]), rB gp 98 ([dv, wv, .map (some mg)]), rR u8 5 dv xs, rR kW 100 wv ps, rM mg (yng ps), rB g5 71 (byts (encH 1 s b)), rB g6 108 ([.bool true, .int .i64 1, .int .i64 s, .int .i64 b])] := Hold.setB H60 0 rfl b116 c116 rfl
      clear H60
      clear b116 c116
      refine ⟨.inl (by kernel_rfl), ?_⟩
      refine edd (by kernel_rfl) ?_
      refine be (rg (r (mv z4) (r (ad (a := (r9 : Int)) (b := 1) ((r9 : Int) + 1) rfl rfl (by omega)) (r (sa rfl) (re ?_)))))
      have H62 : Hold w F w116 [rB gp 98 ([dv, wv, .map (some mg)]), rR u8 5 dv xs, rR kW 100 wv ps, rM mg (yng ps), rB gm 80 ([.pointer (some ⟨gp, 0, none⟩), .int .i64 s, .int .i64 b, .int .i64 (s * b), .int .i64 (tabs s b), .int .i64 (logs s b), .int .i64 (logs s b + s * b), .int .i64 (s * b - 2 * b), .int .i64 1, .slice none 0 0, .slice none 0 0, .slice none 0 0])] := (show Hold w F w116 ([rB gp 98 ([dv, wv, .map (some mg)]), rR u8 5 dv xs, rR kW 100 wv ps, rM mg (yng ps), rB gm 80 ([.pointer (some ⟨gp, 0, none⟩), .int .i64 s, .int .i64 b, .int .i64 (s * b), .int .i64 (tabs s b), .int .i64 (logs s b), .int .i64 (logs s b + s * b), .int .i64 (s * b - 2 * b), .int .i64 1, .slice none 0 0, .slice none 0 0, .slice none 0 0])] ++ [rB g5 71 (byts (encH 1 s b)), rB g6 108 ([.bool true, .int .i64 1, .int .i64 s, .int .i64 b])]) from Hold.re H61 [1, 2, 3, 4, 0, 5, 6] (by kernel_rfl) (by rfl)).drop
      clear H61
      exact ag (r9 + 1) ⟨z0, (show _ = Value.int .i64 _ from congrArg (Value.int .i64) (by rw [hr0]; rfl)), rfl, (by rw [show sR (r9 + 1) = 1 by rw [hr0]; rfl]; exact H62), by omega⟩ (by first | omega | (dsimp only; omega))
  · have e9 : r9 = 2 := by omega
    refine ex rfl (sq (rg (r (mv y3) (r (sa rfl) (re (rt ?_))))))
    have H4 : Hold w F w503 [rPl gp (logs s b + s * b) rdf, rB gm 80 ([.pointer (some ⟨gp, 0, none⟩), .int .i64 s, .int .i64 b, .int .i64 (s * b), .int .i64 (tabs s b), .int .i64 (logs s b), .int .i64 (logs s b + s * b), .int .i64 (s * b - 2 * b), .int .i64 (sR r9), .slice none 0 0, .slice none 0 0, .slice none 0 0])] := Hold.plI hDk H3
    clear H3
    have H5 : Hold w F w503 [rB gm 80 ([.pointer (some ⟨gp, 0, none⟩), .int .i64 s, .int .i64 b, .int .i64 (s * b), .int .i64 (tabs s b), .int .i64 (logs s b), .int .i64 (logs s b + s * b), .int .i64 (s * b - 2 * b), .int .i64 (sR r9), .slice none 0 0, .slice none 0 0, .slice none 0 0]), rPl gp (logs s b + s * b) rdf] := Hold.re H4 [1, 0] (by kernel_rfl) (by rfl)
    clear H4
    exact fin1 (v := .int .i64 (bR r9)) Tryz.results24 rfl ⟨congrArg (Value.int .i64) (by rw [e9]; rfl), (by rw [show (1 : Int) = sR r9 by rw [e9]; rfl]; exact H5)⟩
end Go.Proofs.YtanfhikfeabidaaGreatDoor

namespace Go.Eng
set_option linter.unusedVariables false
section
variable {P : Program} {ρ : Fr} {w : World} {d : Option Nat} {ty : TypeId} {pos : String} {af : Array Edge}
/-- A map in which nothing is, looked up. -/
theorem lke {t kt et : TypeId} {x y : Operand} {g : Nat} {a : Int} {z : Value} {sz by_ : Nat} (ht : P.underlying t = some (.map kt et)) (hk : P.underlying kt = some (.int .i64)) (hi : TI P et z sz by_) (hx : ev ρ x = .map (some g)) (hy : ev ρ y = .int .i64 a) (hM : MpI w g (fun _ => none)) :
    Rn P ρ ⟨d, .lookup t x y true, ty, pos, af, none⟩ w (.tuple #[z, .bool false]) := by
  refine ⟨rfl, fun w' c => ?_⟩
  obtain ⟨es, clock, m, hb, he, hf⟩ := hM.t c
  obtain ⟨i0, hi0, hz, _, _⟩ := info_parts hi
  have hck : (Instr.checkKey es.isEmpty 10000 kt (.int .i64 a)).run P w' = .ok () w' := MapKept.run_checkKey (k := .int .i64 a) hk (by simp [MapKept.IsKey]) _ 9999
  rcases findNow_enc es.toList m a 0 he with ⟨h1, h2, _⟩ | ⟨j, v, h1, h2, _⟩
  · simp [execOp, Instr.lookup, hx, hy, run_underlying ht, MapKept.run_getObj_map hb, hck, MapKept.run_findKey hk h2, zeroValue, typeInfo, hi0, hz, run_program]
  · rw [hf] at h1; cases h1
end
end Go.Eng
namespace Go.Proofs.YtanfhikfeabidaaGreatDoor
open Go Go.Eng
set_option maxRecDepth 100000
set_option maxHeartbeats 4000000
set_option linter.unusedVariables false
set_option linter.unusedSimpArgs false
abbrev kIno : Kd Bool := Kd.flat 4 (fun x => [.bool x, .string (⟨#[]⟩ : ByteArray), .int .i64 0, .slice none 0 0]) (by decide) (fun _ => rfl) (fun x u hu => by simp at hu; rcases hu with rfl | rfl | rfl | rfl <;> rfl)
theorem unbig_rep (k : Nat) : unbig (List.replicate k 0) = 0 := by
  induction k with
  | zero => rfl
  | succ k ih => rw [List.replicate_succ', unbig_snoc, ih]; rfl
theorem ntE_rep {n i : Nat} : ntE (List.replicate n 0) i = (0, false) := by
  unfold ntE
  rw [List.drop_replicate, List.take_replicate, unbig_rep]; rfl
theorem dec_rep {m : Nat} (h : m ≤ 1024) : decTable (List.replicate (2 * m) 0) = (true, List.replicate m (0, false)) := by
  have he : entsB (List.replicate (2 * m) 0) ((List.replicate (2 * m) (0 : Int)).length / 2) = List.replicate m (0, false) := by
    have hl : (List.replicate (2 * m) (0 : Int)).length / 2 = m := by simp
    rw [hl]
    apply List.ext_getElem (by simp [entsB])
    intro i h1 h2
    simp [entsB, ntE_rep]
  have ho : decOk (List.replicate (2 * m) 0) := by
    refine ⟨by simp, by simp; omega, fun x hx => ?_⟩
    rw [he] at hx
    rw [List.eq_of_mem_replicate hx]; decide
  unfold decTable
  rw [if_pos ho, he]
theorem mt_table {w : World} {F : List Nat} {gm gp : Nat} {s b : Int} {rdf : Int → List Int} (h : Hs w [rB gm 80 ([.pointer (some ⟨gp, 0, none⟩), .int .i64 s, .int .i64 b, .int .i64 (s * b), .int .i64 (tabs s b), .int .i64 (logs s b), .int .i64 (logs s b + s * b), .int .i64 (s * b - 2 * b), .int .i64 1, .slice none 0 0, .slice none 0 0, .slice none 0 0]), rPl gp (logs s b + s * b) rdf] F) (nd : F.Nodup) (hg : geo s b) (hfr : Fresh s b rdf) : Ret Tryz.prog 25 #[.pointer (some ⟨gm, 0, none⟩), .int .i64 1] w (fun r w' => ∃ tv, r = .bool true ∧ Hold w F w' [rB gm 80 ([.pointer (some ⟨gp, 0, none⟩), .int .i64 s, .int .i64 b, .int .i64 (s * b), .int .i64 (tabs s b), .int .i64 (logs s b), .int .i64 (logs s b + s * b), .int .i64 (s * b - 2 * b), .int .i64 1, tv, .slice none 0 0, .slice none 0 0]), rPl gp (logs s b + s * b) rdf, rR kE 115 tv (List.replicate (s * b).toNat (0, false))]) := by
  have hm2 := geo_mul hg
  have hg2 := hg
  unfold geo at hg2
  have htb : 0 ≤ tabs s b ∧ tabs s b ≤ 33 ∧ 2 * (s * b) ≤ 64 * tabs s b := by unfold tabs; omega
  have hlg : logs s b = 2 * (1 + tabs s b) := rfl
  obtain ⟨m, hm⟩ : ∃ m : Nat, (m : Int) = s * b := ⟨(s * b).toNat, by omega⟩
  refine enter Tryz.func25 rfl Tryz.ntmps25 (by rfl) (by rfl) ?_
  have H0 : Hold w F w [rB gm 80 ([.pointer (some ⟨gp, 0, none⟩), .int .i64 s, .int .i64 b, .int .i64 (s * b), .int .i64 (tabs s b), .int .i64 (logs s b), .int .i64 (logs s b + s * b), .int .i64 (s * b - 2 * b), .int .i64 1, .slice none 0 0, .slice none 0 0, .slice none 0 0]), rPl gp (logs s b + s * b) rdf] := Hold.begin h nd
  have H1 : Hold w F w [rPl gp (logs s b + s * b) rdf, rB gm 80 ([.pointer (some ⟨gp, 0, none⟩), .int .i64 s, .int .i64 b, .int .i64 (s * b), .int .i64 (tabs s b), .int .i64 (logs s b), .int .i64 (logs s b + s * b), .int .i64 (s * b - 2 * b), .int .i64 1, .slice none 0 0, .slice none 0 0, .slice none 0 0])] := Hold.re H0 [1, 0] (by kernel_rfl) (by rfl)
  clear H0
  obtain ⟨dv, wv, mg, xs, ps, hDk, H2⟩ := Hold.plE H1
  replace H2 : Hold w F w [rB gp 98 ([dv, wv, .map (some mg)]), rR u8 5 dv xs, rR kW 100 wv ps, rM mg (yng ps), rB gm 80 ([.pointer (some ⟨gp, 0, none⟩), .int .i64 s, .int .i64 b, .int .i64 (s * b), .int .i64 (tabs s b), .int .i64 (logs s b), .int .i64 (logs s b + s * b), .int .i64 (s * b - 2 * b), .int .i64 1, .slice none 0 0, .slice none 0 0, .slice none 0 0])] := H2
  clear H1
  have b1 : B w gm 80 ([.pointer (some ⟨gp, 0, none⟩), .int .i64 s, .int .i64 b, .int .i64 (s * b), .int .i64 (tabs s b), .int .i64 (logs s b), .int .i64 (logs s b + s * b), .int .i64 (s * b - 2 * b), .int .i64 1, .slice none 0 0, .slice none 0 0, .slice none 0 0]) := Hold.blk H2 4 rfl
  refine sq (rg (r (sa rfl) (re (sq (rg (r (sa rfl) (re (sq (sq (rg (r (mv rfl) (r (nck rfl) (r (fa Tryz.underlying80 rfl ti51 rfl rfl) (r (fa Tryz.underlying51 rfl ti2 rfl rfl) (r (ldb Tryz.underlying2 rfl rfl b1 rfl) (r (mv rfl) (re (bl ?_))))))))))))))))))
  have H3 : Hold w F w [rB gp 98 ([dv, wv, .map (some mg)]), rR u8 5 dv xs, rR kW 100 wv ps, rM mg (yng ps), rB gm 80 ([.pointer (some ⟨gp, 0, none⟩), .int .i64 s, .int .i64 b, .int .i64 (s * b), .int .i64 (tabs s b), .int .i64 (logs s b), .int .i64 (logs s b + s * b), .int .i64 (s * b - 2 * b), .int .i64 1, .slice none 0 0, .slice none 0 0, .slice none 0 0]), rR u8 5 (.slice none 0 0) ([])] := Hold.nilrow u8 5 H2
  clear H2
  refine lp (α := Nat × Value) (fun (i, o) ρ w' => ρ 0 = .pointer (some ⟨gm, 0, none⟩) ∧ ρ 1 = .int .i64 1 ∧ ρ 5 = o ∧ ρ 17 = .int .i64 (tabs s b) ∧ ρ 18 = .int .i64 (i : Int) ∧ Hold w F w' [rB gp 98 ([dv, wv, .map (some mg)]), rR u8 5 dv xs, rR kW 100 wv ps, rM mg (yng ps), rB gm 80 ([.pointer (some ⟨gp, 0, none⟩), .int .i64 s, .int .i64 b, .int .i64 (s * b), .int .i64 (tabs s b), .int .i64 (logs s b), .int .i64 (logs s b + s * b), .int .i64 (s * b - 2 * b), .int .i64 1, .slice none 0 0, .slice none 0 0, .slice none 0 0]), rR u8 5 o (List.replicate (64 * i) 0)] ∧ (i : Int) ≤ tabs s b) (fun (i, o) => (tabs s b - i).toNat) (0, .slice none 0 0) ?_ ?_
  · exact ⟨rfl, rfl, rfl, rfl, rfl, H3, by omega⟩
  clear H3
  rintro ⟨i, o⟩ ρ w504 ⟨y0, y1, y5, y17, y18, H4, hi⟩
  refine sq (rg (r (bi y18 y17 rfl) (re (sq ?_))))
  refine cp rfl (fun hlt => ?_) (fun hlt => ?_)
  · have hlx := hDk.V.len2
    have hat9 := hDk.V.at (b := 1 + tabs s b + 1 + (i : Int)) ⟨by omega, by rw [hDk.nb]; omega⟩
    refine sk (sq (bl (sq (rg (r (mv y18) (r (sa rfl) (re ?_)))))))
    refine sq ?_
    refine rde_cut (fun ρ w' => ∃ g7 : Nat, ρ 0 = .pointer (some ⟨gm, 0, none⟩) ∧ ρ 1 = .int .i64 1 ∧ ρ 5 = o ∧ ρ 17 = .int .i64 (tabs s b) ∧ ρ 18 = .int .i64 (i : Int) ∧ ρ 7 = .pointer (some ⟨g7, 0, none⟩) ∧ Hold w F w' [rB gp 98 ([dv, wv, .map (some mg)]), rR u8 5 dv xs, rR kW 100 wv ps, rM mg (yng ps), rB gm 80 ([.pointer (some ⟨gp, 0, none⟩), .int .i64 s, .int .i64 b, .int .i64 (s * b), .int .i64 (tabs s b), .int .i64 (logs s b), .int .i64 (logs s b + s * b), .int .i64 (s * b - 2 * b), .int .i64 1, .slice none 0 0, .slice none 0 0, .slice none 0 0]), rR u8 5 o (List.replicate (64 * i) 0), rB g7 71 (byts zs64)]) mixed ?_ ?_
    · intro w3 c3
      have H5 : Hold w F w3 [rB gp 98 ([dv, wv, .map (some mg)]), rR u8 5 dv xs, rR kW 100 wv ps, rM mg (yng ps), rB gm 80 ([.pointer (some ⟨gp, 0, none⟩), .int .i64 s, .int .i64 b, .int .i64 (s * b), .int .i64 (tabs s b), .int .i64 (logs s b), .int .i64 (logs s b + s * b), .int .i64 (s * b - 2 * b), .int .i64 1, .slice none 0 0, .slice none 0 0, .slice none 0 0]), rR u8 5 o (List.replicate (64 * i) 0)] := Hold.t H4 c3
      clear H4
      clear c3
      have H4d0 : Hold w3 [] w3 [] := Hold.start w3
      refine ⟨fun w' => Ch [] w3 w', Ch.refl _ _, ?_⟩
      have b5 : B w3 gm 80 ([.pointer (some ⟨gp, 0, none⟩), .int .i64 s, .int .i64 b, .int .i64 (s * b), .int .i64 (tabs s b), .int .i64 (logs s b), .int .i64 (logs s b + s * b), .int .i64 (s * b - 2 * b), .int .i64 1, .slice none 0 0, .slice none 0 0, .slice none 0 0]) := Hold.blk H5 4 rfl
      refine edt 0 rfl (by kernel_rfl) (fun w' hS => mv y0) (edt 1 rfl (by kernel_rfl) (fun w' hS => nck rfl) (edt 2 rfl (by kernel_rfl) (fun w' hS => fa Tryz.underlying80 rfl ti49 rfl rfl) (edt 3 rfl (by kernel_rfl) (fun w' hS => ldb Tryz.underlying49 rfl rfl (hS.b0 b5) rfl) (edt 4 rfl (by kernel_rfl) (fun w' hS => mv y0) (edt 5 rfl (by kernel_rfl) (fun w' hS => nck rfl) (edt 6 rfl (by kernel_rfl) (fun w' hS => fa Tryz.underlying80 rfl ti51 rfl rfl) (edt 7 rfl (by kernel_rfl) (fun w' hS => lab [.int .i64 (s * b), .int .i64 (tabs s b), .int .i64 (logs s b), .int .i64 (logs s b + s * b), .int .i64 (s * b - 2 * b)] Tryz.underlying51 rfl ti51 rfl (hS.b0 b5) rfl rfl) (edt 8 rfl (by kernel_rfl) (fun w' hS => mv y1) (edt 11 rfl (by kernel_rfl) (fun w' hS => mv rfl) ?_)))))))))
      refine ed2 9 14 (by kernel_rfl) ?_ ?_
      · refine euc rfl go20 (ac rfl (ac rfl an)) (Places_reg (k := 1) ⟨htb.1, by omega, by omega, by omega⟩) ?_
        rintro r wr ⟨er, cr⟩
        rw [show (1 : Int) * (1 + tabs s b) = 1 + tabs s b by omega] at er
        subst er
        have H6d : Hold w3 [] wr [] := Hold.t H4d0 cr
        clear H4d0
        clear cr
        refine ⟨.inr (Hold.ch H6d), ?_⟩
        refine edt 10 rfl (by kernel_rfl) (fun w' hS => ad (a := 1 + tabs s b) (b := 1) (1 + tabs s b + 1) rfl rfl (by omega)) (edt 12 rfl (by kernel_rfl) (fun w' hS => ad (a := 1 + tabs s b + 1) (b := (i : Int)) (1 + tabs s b + 1 + (i : Int)) rfl rfl (by omega)) ?_)
        refine ed2 13 14 (by kernel_rfl) ?_ ?_
        · have b8 : B w3 gp 98 ([dv, wv, .map (some mg)]) := Hold.blk H5 0 rfl
          have b9 : MpI w3 mg (yng ps) := Hold.mp H5 3 rfl
          obtain ⟨_, R10⟩ : ∃ F, Kd.R u8 w3 F dv xs := Hold.row H5 1 rfl
          obtain ⟨_, R11⟩ : ∃ F, Kd.R kW w3 F wv ps := Hold.row H5 2 rfl
          refine euc rfl go39 (ac rfl (ac rfl an)) (platter_read (b := 1 + tabs s b + 1 + (i : Int)) ((Hold.ch H6d).b0 b8) (MpI.t (Hold.ch H6d) b9) (R10.t (Hold.ch H6d)) (R11.t (Hold.ch H6d)) (by omega) ⟨by omega, by omega⟩ (fun x hx => (hDk.V.ok x hx).2.2)) ?_
          rintro r wq ⟨er, cq9⟩
          rw [hDk.rd _ (by omega), hfr.z2 _ (by omega) (by omega)] at er
          subst er
          have H7d : Hold w3 [] wq [] := Hold.t H6d cq9
          clear H6d
          clear cq9
          refine ⟨.inr (Hold.ch H7d), ?_⟩
          refine ed1 14 (by kernel_rfl) <| euf rfl (xal ti71) ?_
          rintro _ w12 ⟨g7, e12, rfl, -, b12, c12⟩
          have H8d : Hold w3 [] w12 [rB g7 71 (byts (List.replicate 64 0))] := Hold.newB H7d e12 b12 c12
          clear H7d
          clear e12 b12 c12
          refine ⟨.inr (Hold.ch H8d), ?_⟩
          have H9 : Hold w F w12 [rB gp 98 ([dv, wv, .map (some mg)]), rR u8 5 dv xs, rR kW 100 wv ps, rM mg (yng ps), rB gm 80 ([.pointer (some ⟨gp, 0, none⟩), .int .i64 s, .int .i64 b, .int .i64 (s * b), .int .i64 (tabs s b), .int .i64 (logs s b), .int .i64 (logs s b + s * b), .int .i64 (s * b - 2 * b), .int .i64 1, .slice none 0 0, .slice none 0 0, .slice none 0 0]), rR u8 5 o (List.replicate (64 * i) 0), rB g7 71 (byts (List.replicate 64 0))] := Hold.news H5 H8d
          clear H8d H5
          have b13 : B w12 g7 71 (byts (List.replicate 64 0)) := Hold.blk H9 6 rfl
          refine ed1 15 (by kernel_rfl) <| euf0 rfl (xsta ti71 rfl rfl zs64_len b13 (by simp)) ?_
          rintro w14 ⟨-, b14, c14⟩
          have H10 : Hold w F w14 [rB gp 98 ([dv, wv, .map (some mg)]), rR u8 5 dv xs, rR kW 100 wv ps, rM mg (yng ps), rB gm 80 ([.pointer (some ⟨gp, 0, none⟩), .int .i64 s, .int .i64 b, .int .i64 (s * b), .int .i64 (tabs s b), .int .i64 (logs s b), .int .i64 (logs s b + s * b), .int .i64 (s * b - 2 * b), .int .i64 1, .slice none 0 0, .slice none 0 0, .slice none 0 0]), rR u8 5 o (List.replicate (64 * i) 0), rB g7 71 (byts zs64)] := Hold.setB H9 6 rfl b14 c14 rfl
          clear H9
          clear b14 c14
          refine ⟨.inl (by kernel_rfl), ?_⟩
          refine edd (by kernel_rfl) ?_
          exact ⟨g7, y0, y1, y5, y17, y18, rfl, H10⟩
        · refine euf rfl (xal ti71) ?_
          rintro _ w7 ⟨g7, e7, rfl, -, b7, c7⟩
          have H7d : Hold w3 [] w7 [rB g7 71 (byts (List.replicate 64 0))] := Hold.newB H6d e7 b7 c7
          clear H6d
          clear e7 b7 c7
          refine ⟨.inr (Hold.ch H7d), ?_⟩
          have b9 : B w3 gp 98 ([dv, wv, .map (some mg)]) := Hold.blk H5 0 rfl
          have b10 : MpI w3 mg (yng ps) := Hold.mp H5 3 rfl
          obtain ⟨_, R11⟩ : ∃ F, Kd.R u8 w3 F dv xs := Hold.row H5 1 rfl
          obtain ⟨_, R12⟩ : ∃ F, Kd.R kW w3 F wv ps := Hold.row H5 2 rfl
          refine ed1 13 (by kernel_rfl) <| euc rfl go39 (ac rfl (ac rfl an)) (platter_read (b := 1 + tabs s b + 1 + (i : Int)) ((Hold.ch H7d).b0 b9) (MpI.t (Hold.ch H7d) b10) (R11.t (Hold.ch H7d)) (R12.t (Hold.ch H7d)) (by omega) ⟨by omega, by omega⟩ (fun x hx => (hDk.V.ok x hx).2.2)) ?_
          rintro r wq ⟨er, cq9⟩
          rw [hDk.rd _ (by omega), hfr.z2 _ (by omega) (by omega)] at er
          subst er
          have H8d : Hold w3 [] wq [rB g7 71 (byts (List.replicate 64 0))] := Hold.t H7d cq9
          clear H7d
          clear cq9
          refine ⟨.inr (Hold.ch H8d), ?_⟩
          have H9 : Hold w F wq [rB gp 98 ([dv, wv, .map (some mg)]), rR u8 5 dv xs, rR kW 100 wv ps, rM mg (yng ps), rB gm 80 ([.pointer (some ⟨gp, 0, none⟩), .int .i64 s, .int .i64 b, .int .i64 (s * b), .int .i64 (tabs s b), .int .i64 (logs s b), .int .i64 (logs s b + s * b), .int .i64 (s * b - 2 * b), .int .i64 1, .slice none 0 0, .slice none 0 0, .slice none 0 0]), rR u8 5 o (List.replicate (64 * i) 0), rB g7 71 (byts (List.replicate 64 0))] := Hold.news H5 H8d
          clear H8d H5
          have b13 : B wq g7 71 (byts (List.replicate 64 0)) := Hold.blk H9 6 rfl
          refine ed1 15 (by kernel_rfl) <| euf0 rfl (xsta ti71 rfl rfl zs64_len b13 (by simp)) ?_
          rintro w14 ⟨-, b14, c14⟩
          have H10 : Hold w F w14 [rB gp 98 ([dv, wv, .map (some mg)]), rR u8 5 dv xs, rR kW 100 wv ps, rM mg (yng ps), rB gm 80 ([.pointer (some ⟨gp, 0, none⟩), .int .i64 s, .int .i64 b, .int .i64 (s * b), .int .i64 (tabs s b), .int .i64 (logs s b), .int .i64 (logs s b + s * b), .int .i64 (s * b - 2 * b), .int .i64 1, .slice none 0 0, .slice none 0 0, .slice none 0 0]), rR u8 5 o (List.replicate (64 * i) 0), rB g7 71 (byts zs64)] := Hold.setB H9 6 rfl b14 c14 rfl
          clear H9
          clear b14 c14
          refine ⟨.inl (by kernel_rfl), ?_⟩
          refine edd (by kernel_rfl) ?_
          exact ⟨g7, y0, y1, y5, y17, y18, rfl, H10⟩
      · refine euf rfl (xal ti71) ?_
        rintro _ w6 ⟨g7, e6, rfl, -, b6, c6⟩
        have H6d : Hold w3 [] w6 [rB g7 71 (byts (List.replicate 64 0))] := Hold.newB H4d0 e6 b6 c6
        clear H4d0
        clear e6 b6 c6
        refine ⟨.inr (Hold.ch H6d), ?_⟩
        refine ed1 9 (by kernel_rfl) <| euc rfl go20 (ac rfl (ac rfl an)) (Places_reg (k := 1) ⟨htb.1, by omega, by omega, by omega⟩) ?_
        rintro r wr ⟨er, cr⟩
        rw [show (1 : Int) * (1 + tabs s b) = 1 + tabs s b by omega] at er
        subst er
        have H7d : Hold w3 [] wr [rB g7 71 (byts (List.replicate 64 0))] := Hold.t H6d cr
        clear H6d
        clear cr
        refine ⟨.inr (Hold.ch H7d), ?_⟩
        have b9 : B w3 gp 98 ([dv, wv, .map (some mg)]) := Hold.blk H5 0 rfl
        have b10 : MpI w3 mg (yng ps) := Hold.mp H5 3 rfl
        obtain ⟨_, R11⟩ : ∃ F, Kd.R u8 w3 F dv xs := Hold.row H5 1 rfl
        obtain ⟨_, R12⟩ : ∃ F, Kd.R kW w3 F wv ps := Hold.row H5 2 rfl
        refine edt 10 rfl (by kernel_rfl) (fun w' hS => ad (a := 1 + tabs s b) (b := 1) (1 + tabs s b + 1) rfl rfl (by omega)) (edt 12 rfl (by kernel_rfl) (fun w' hS => ad (a := 1 + tabs s b + 1) (b := (i : Int)) (1 + tabs s b + 1 + (i : Int)) rfl rfl (by omega)) (ed1 13 (by kernel_rfl) <| euc rfl go39 (ac rfl (ac rfl an)) (platter_read (b := 1 + tabs s b + 1 + (i : Int)) ((Hold.ch H7d).b0 b9) (MpI.t (Hold.ch H7d) b10) (R11.t (Hold.ch H7d)) (R12.t (Hold.ch H7d)) (by omega) ⟨by omega, by omega⟩ (fun x hx => (hDk.V.ok x hx).2.2)) ?_))
        rintro r wq ⟨er, cq9⟩
        rw [hDk.rd _ (by omega), hfr.z2 _ (by omega) (by omega)] at er
        subst er
        have H8d : Hold w3 [] wq [rB g7 71 (byts (List.replicate 64 0))] := Hold.t H7d cq9
        clear H7d
        clear cq9
        refine ⟨.inr (Hold.ch H8d), ?_⟩
        have H9 : Hold w F wq [rB gp 98 ([dv, wv, .map (some mg)]), rR u8 5 dv xs, rR kW 100 wv ps, rM mg (yng ps), rB gm 80 ([.pointer (some ⟨gp, 0, none⟩), .int .i64 s, .int .i64 b, .int .i64 (s * b), .int .i64 (tabs s b), .int .i64 (logs s b), .int .i64 (logs s b + s * b), .int .i64 (s * b - 2 * b), .int .i64 1, .slice none 0 0, .slice none 0 0, .slice none 0 0]), rR u8 5 o (List.replicate (64 * i) 0), rB g7 71 (byts (List.replicate 64 0))] := Hold.news H5 H8d
        clear H8d H5
        have b13 : B wq g7 71 (byts (List.replicate 64 0)) := Hold.blk H9 6 rfl
        refine ed1 15 (by kernel_rfl) <| euf0 rfl (xsta ti71 rfl rfl zs64_len b13 (by simp)) ?_
        rintro w14 ⟨-, b14, c14⟩
        have H10 : Hold w F w14 [rB gp 98 ([dv, wv, .map (some mg)]), rR u8 5 dv xs, rR kW 100 wv ps, rM mg (yng ps), rB gm 80 ([.pointer (some ⟨gp, 0, none⟩), .int .i64 s, .int .i64 b, .int .i64 (s * b), .int .i64 (tabs s b), .int .i64 (logs s b), .int .i64 (logs s b + s * b), .int .i64 (s * b - 2 * b), .int .i64 1, .slice none 0 0, .slice none 0 0, .slice none 0 0]), rR u8 5 o (List.replicate (64 * i) 0), rB g7 71 (byts zs64)] := Hold.setB H9 6 rfl b14 c14 rfl
        clear H9
        clear b14 c14
        refine ⟨.inl (by kernel_rfl), ?_⟩
        refine edd (by kernel_rfl) ?_
        exact ⟨g7, y0, y1, y5, y17, y18, rfl, H10⟩
    rintro ρ w554 ⟨g7, y0, y1, y5, y17, y18, y7, H54⟩
    clear H4
    have b107 : B w554 g7 71 (byts zs64) := Hold.blk H54 6 rfl
    obtain ⟨F108, P108, n108, s108, K108⟩ := Hold.pick H54 5 rfl
    replace P108 : Kd.W u8 5 w554 F108 o (List.replicate (64 * i) 0) := P108
    refine rg (r (mv y5) (r (sla Tryz.underlying71 ti5 y7) (ef (aps Tryz.underlying22 ti5 rfl (flat_int _) rfl rfl P108 ((Kd.W.R (row_of_arr (xs := zs64) b107 zs64_len (Nat.le_of_ble_eq_true rfl)))) n108 (by rw [zs64_len, List.length_replicate]; omega)) ?_)))
    rintro v37_106 w106 ⟨F106, A106⟩
    have H55 : Hold w F w106 [rB gp 98 ([dv, wv, .map (some mg)]), rR u8 5 dv xs, rR kW 100 wv ps, rM mg (yng ps), rB gm 80 ([.pointer (some ⟨gp, 0, none⟩), .int .i64 s, .int .i64 b, .int .i64 (s * b), .int .i64 (tabs s b), .int .i64 (logs s b), .int .i64 (logs s b + s * b), .int .i64 (s * b - 2 * b), .int .i64 1, .slice none 0 0, .slice none 0 0, .slice none 0 0]), rR u8 5 v37_106 ((List.replicate (64 * i) 0) ++ zs64), rB g7 71 (byts zs64)] := Hold.apd K108 P108 A106 rfl
    clear H54
    clear A106 K108 P108 n108 s108
    refine r (sa rfl) (re (be (rg (r (ad (a := (i : Int)) (b := 1) ((i : Int) + 1) y18 rfl (by omega)) (r (mv rfl) (re ?_))))))
    have H56 : Hold w F w106 [rB gp 98 ([dv, wv, .map (some mg)]), rR u8 5 dv xs, rR kW 100 wv ps, rM mg (yng ps), rB gm 80 ([.pointer (some ⟨gp, 0, none⟩), .int .i64 s, .int .i64 b, .int .i64 (s * b), .int .i64 (tabs s b), .int .i64 (logs s b), .int .i64 (logs s b + s * b), .int .i64 (s * b - 2 * b), .int .i64 1, .slice none 0 0, .slice none 0 0, .slice none 0 0]), rR u8 5 v37_106 ((List.replicate (64 * i) 0) ++ zs64)] := (show Hold w F w106 ([rB gp 98 ([dv, wv, .map (some mg)]), rR u8 5 dv xs, rR kW 100 wv ps, rM mg (yng ps), rB gm 80 ([.pointer (some ⟨gp, 0, none⟩), .int .i64 s, .int .i64 b, .int .i64 (s * b), .int .i64 (tabs s b), .int .i64 (logs s b), .int .i64 (logs s b + s * b), .int .i64 (s * b - 2 * b), .int .i64 1, .slice none 0 0, .slice none 0 0, .slice none 0 0]), rR u8 5 v37_106 ((List.replicate (64 * i) 0) ++ zs64)] ++ [rB g7 71 (byts zs64)]) from Hold.re H55 [0, 1, 2, 3, 4, 5, 6] (by kernel_rfl) (by rfl)).drop
    clear H55
    exact ag (i + 1, v37_106) ⟨y0, y1, rfl, y17, rfl, (by rw [show List.replicate (64 * (i + 1)) (0 : Int) = List.replicate (64 * i) 0 ++ zs64 by unfold zs64; rw [List.replicate_append_replicate, Nat.mul_add]]; exact H56), by omega⟩ (by first | omega | (dsimp only; omega))
  · have e64 : ((List.replicate (64 * i) (0 : Int)).take (2 * m)).drop 0 = List.replicate (2 * m) 0 := by rw [List.drop_zero, List.take_replicate, Nat.min_eq_left (by omega)]
    have hmn : (s * b).toNat = m := by omega
    have b2 : B w504 gm 80 ([.pointer (some ⟨gp, 0, none⟩), .int .i64 s, .int .i64 b, .int .i64 (s * b), .int .i64 (tabs s b), .int .i64 (logs s b), .int .i64 (logs s b + s * b), .int .i64 (s * b - 2 * b), .int .i64 1, .slice none 0 0, .slice none 0 0, .slice none 0 0]) := Hold.blk H4 4 rfl
    obtain ⟨_, R3⟩ : ∃ F, Kd.R u8 w504 F o (List.replicate (64 * i) 0) := Hold.row H4 5 rfl
    obtain ⟨F5, us5, R5⟩ := Kd.R.sl R3 (0) (2 * m) (by first | omega | (simp; omega)) (by first | omega | (simp; omega))
    refine ex rfl (sq (rg (r (mv y5) (r (mv y0) (r (nck rfl) (r (fa Tryz.underlying80 rfl ti51 rfl rfl) (r (fa Tryz.underlying51 rfl ti2 rfl rfl) (r (ldb Tryz.underlying2 rfl rfl b2 rfl) (r (ml (a := 2) (b := s * b) (((2 * m : Nat) : Int)) rfl rfl (by omega)) (r (slrh (2 * m) Tryz.underlying22 ti5 R3 rfl rfl (by simp; omega)) (cl go41 (impl_DecodeTable R5 (by simp; omega) (by rw [e64]; exact ok8_rep _)) (ac rfl an) ?_)))))))))))
    rintro r wt ⟨tv, er, Ht⟩
    rw [e64, dec_rep (by omega), ← hmn] at er Ht
    subst er
    have H5 : Hold w F wt [rB gp 98 ([dv, wv, .map (some mg)]), rR u8 5 dv xs, rR kW 100 wv ps, rM mg (yng ps), rB gm 80 ([.pointer (some ⟨gp, 0, none⟩), .int .i64 s, .int .i64 b, .int .i64 (s * b), .int .i64 (tabs s b), .int .i64 (logs s b), .int .i64 (logs s b + s * b), .int .i64 (s * b - 2 * b), .int .i64 1, .slice none 0 0, .slice none 0 0, .slice none 0 0]), rR u8 5 o (List.replicate (64 * i) 0), rR kE 115 tv (List.replicate (s * b).toNat (0, false))] := Hold.news H4 Ht
    clear H4
    clear Ht
    refine ef (xal ti111) ?_
    rintro _ w6 ⟨g8, e6, rfl, -, b6, c6⟩
    have H6 : Hold w F w6 [rB gp 98 ([dv, wv, .map (some mg)]), rR u8 5 dv xs, rR kW 100 wv ps, rM mg (yng ps), rB gm 80 ([.pointer (some ⟨gp, 0, none⟩), .int .i64 s, .int .i64 b, .int .i64 (s * b), .int .i64 (tabs s b), .int .i64 (logs s b), .int .i64 (logs s b + s * b), .int .i64 (s * b - 2 * b), .int .i64 1, .slice none 0 0, .slice none 0 0, .slice none 0 0]), rR u8 5 o (List.replicate (64 * i) 0), rR kE 115 tv (List.replicate (s * b).toNat (0, false)), rB g8 111 ([.bool false, .slice none 0 0])] := Hold.newB H5 e6 b6 c6
    clear H5
    clear e6 b6 c6
    have b7 : B w6 g8 111 ([.bool false, .slice none 0 0]) := Hold.blk H6 7 rfl
    obtain ⟨_, R9⟩ : ∃ F, Kd.R kE w6 F tv (List.replicate (s * b).toNat (0, false)) := Hold.row H6 6 rfl
    refine ef0 (xst (vs := [.bool true, tv]) ti111 rfl rfl rfl b7 rfl (Nat.le_of_ble_eq_true rfl) (oc rfl (oc (R9).oneCell on))) ?_
    rintro w8 ⟨-, b8, c8⟩
    have H7 : Hold w F w8 [rB gp 98 ([dv, wv, .map (some mg)]), rR u8 5 dv xs, rR kW 100 wv ps, rM mg (yng ps), rB gm 80 ([.pointer (some ⟨gp, 0, none⟩), .int .i64 s, .int .i64 b, .int .i64 (s * b), .int .i64 (tabs s b), .int .i64 (logs s b), .int .i64 (logs s b + s * b), .int .i64 (s * b - 2 * b), .int .i64 1, .slice none 0 0, .slice none 0 0, .slice none 0 0]), rR u8 5 o (List.replicate (64 * i) 0), rR kE 115 tv (List.replicate (s * b).toNat (0, false)), rB g8 111 ([.bool true, tv])] := Hold.setB H6 7 rfl b8 c8 rfl
    clear H6
    clear b8 c8
    refine re (sq (sq ?_))
    refine gen (fun ρ => ρ 0 = .pointer (some ⟨gm, 0, none⟩) ∧ ρ 8 = .pointer (some ⟨g8, 0, none⟩) ∧ True) ⟨y0, rfl, trivial⟩ ?_
    rintro ρ ⟨z0, z8, -⟩
    have b10 : B w8 g8 111 ([.bool true, tv]) := Hold.blk H7 7 rfl
    have b11 : B w8 gm 80 ([.pointer (some ⟨gp, 0, none⟩), .int .i64 s, .int .i64 b, .int .i64 (s * b), .int .i64 (tabs s b), .int .i64 (logs s b), .int .i64 (logs s b + s * b), .int .i64 (s * b - 2 * b), .int .i64 1, .slice none 0 0, .slice none 0 0, .slice none 0 0]) := Hold.blk H7 4 rfl
    obtain ⟨_, R13⟩ : ∃ F, Kd.R kE w8 F tv (List.replicate (s * b).toNat (0, false)) := Hold.row H7 6 rfl
    refine rg (r (fa Tryz.underlying111 rfl ti4 rfl z8) (r (ldb Tryz.underlying4 rfl rfl b10 rfl) (r (nt rfl) (re (cf rfl (sk (sq (rg (r (mv z0) (r (fa Tryz.underlying111 rfl ti58 rfl z8) (r (ldb Tryz.underlying58 rfl rfl b10 rfl) (r (nck rfl) (r (fa Tryz.underlying80 rfl ti58 rfl rfl) (ef0 (xst (vs := [tv]) ti58 rfl rfl (cel1 (R13).oneCell) b11 rfl (Nat.le_of_ble_eq_true rfl) (ones1 (R13).oneCell)) ?_))))))))))))))
    rintro w12 ⟨-, b12, c12⟩
    have H8 : Hold w F w12 [rB gp 98 ([dv, wv, .map (some mg)]), rR u8 5 dv xs, rR kW 100 wv ps, rM mg (yng ps), rB gm 80 ([.pointer (some ⟨gp, 0, none⟩), .int .i64 s, .int .i64 b, .int .i64 (s * b), .int .i64 (tabs s b), .int .i64 (logs s b), .int .i64 (logs s b + s * b), .int .i64 (s * b - 2 * b), .int .i64 1, tv, .slice none 0 0, .slice none 0 0]), rR u8 5 o (List.replicate (64 * i) 0), rR kE 115 tv (List.replicate (s * b).toNat (0, false)), rB g8 111 ([.bool true, tv])] := Hold.setB H7 4 rfl b12 c12 rfl
    clear H7
    clear b12 c12
    refine re ?_
    have H9 : Hold w F w12 [rPl gp (logs s b + s * b) rdf, rB gm 80 ([.pointer (some ⟨gp, 0, none⟩), .int .i64 s, .int .i64 b, .int .i64 (s * b), .int .i64 (tabs s b), .int .i64 (logs s b), .int .i64 (logs s b + s * b), .int .i64 (s * b - 2 * b), .int .i64 1, tv, .slice none 0 0, .slice none 0 0]), rR u8 5 o (List.replicate (64 * i) 0), rR kE 115 tv (List.replicate (s * b).toNat (0, false)), rB g8 111 ([.bool true, tv])] := Hold.plI hDk H8
    clear H8
    obtain ⟨tz, htz0⟩ : ∃ t, t = (List.replicate (s * b).toNat (0, false) : List (Int × Bool)) := ⟨_, rfl⟩
    have htl : tz.length = m := by rw [htz0]; simp; omega
    have htz : ∀ x, x ∈ tz → x = (0, false) := fun x hx => by rw [htz0] at hx; exact List.eq_of_mem_replicate hx
    have H10 : Hold w F w12 [rPl gp (logs s b + s * b) rdf, rB gm 80 ([.pointer (some ⟨gp, 0, none⟩), .int .i64 s, .int .i64 b, .int .i64 (s * b), .int .i64 (tabs s b), .int .i64 (logs s b), .int .i64 (logs s b + s * b), .int .i64 (s * b - 2 * b), .int .i64 1, tv, .slice none 0 0, .slice none 0 0]), rR u8 5 o (List.replicate (64 * i) 0), rR kE 115 tv tz, rB g8 111 ([.bool true, tv])] := (by rw [← htz0] at H9; exact H9)
    clear H9
    refine sq (rg (ef (xmm) ?_))
    rintro _ w14 ⟨m56, e14, rfl, b14, c14⟩
    have H11 : Hold w F w14 [rPl gp (logs s b + s * b) rdf, rB gm 80 ([.pointer (some ⟨gp, 0, none⟩), .int .i64 s, .int .i64 b, .int .i64 (s * b), .int .i64 (tabs s b), .int .i64 (logs s b), .int .i64 (logs s b + s * b), .int .i64 (s * b - 2 * b), .int .i64 1, tv, .slice none 0 0, .slice none 0 0]), rR u8 5 o (List.replicate (64 * i) 0), rR kE 115 tv tz, rB g8 111 ([.bool true, tv]), rM m56 (fun _ => none)] := Hold.newM H10 e14 b14 c14
    clear H10
    clear e14 b14 c14
    refine r (sa rfl) (re (sq (sq ?_)))
    refine gen (fun ρ => ρ 0 = .pointer (some ⟨gm, 0, none⟩) ∧ ρ 9 = .map (some m56) ∧ True) ⟨z0, rfl, trivial⟩ ?_
    rintro ρ ⟨z0, z9, -⟩
    have b15 : B w14 gm 80 ([.pointer (some ⟨gp, 0, none⟩), .int .i64 s, .int .i64 b, .int .i64 (s * b), .int .i64 (tabs s b), .int .i64 (logs s b), .int .i64 (logs s b + s * b), .int .i64 (s * b - 2 * b), .int .i64 1, tv, .slice none 0 0, .slice none 0 0]) := Hold.blk H11 1 rfl
    obtain ⟨_, R16⟩ : ∃ F, Kd.R kE w14 F tv tz := Hold.row H11 3 rfl
    refine rg (r (mv z0) (r (nck rfl) (r (fa Tryz.underlying80 rfl ti58 rfl rfl) (r (ldb Tryz.underlying58 rfl rfl b15 rfl) (r (ln Tryz.underlying58 rfl (R16)) (r (mv rfl) (re (bl ?_))))))))
    have H12 : Hold w F w14 [rB gm 80 ([.pointer (some ⟨gp, 0, none⟩), .int .i64 s, .int .i64 b, .int .i64 (s * b), .int .i64 (tabs s b), .int .i64 (logs s b), .int .i64 (logs s b + s * b), .int .i64 (s * b - 2 * b), .int .i64 1, tv, .slice none 0 0, .slice none 0 0]), rPl gp (logs s b + s * b) rdf, rR kE 115 tv tz] := (show Hold w F w14 ([rB gm 80 ([.pointer (some ⟨gp, 0, none⟩), .int .i64 s, .int .i64 b, .int .i64 (s * b), .int .i64 (tabs s b), .int .i64 (logs s b), .int .i64 (logs s b + s * b), .int .i64 (s * b - 2 * b), .int .i64 1, tv, .slice none 0 0, .slice none 0 0]), rPl gp (logs s b + s * b) rdf, rR kE 115 tv tz] ++ [rR u8 5 o (List.replicate (64 * i) 0), rB g8 111 ([.bool true, tv]), rM m56 (fun _ => none)]) from Hold.re H11 [1, 0, 3, 2, 4, 5] (by kernel_rfl) (by rfl)).drop
    clear H11
    refine lp (α := Nat) (fun j ρ w' => ρ 0 = .pointer (some ⟨gm, 0, none⟩) ∧ ρ 9 = .map (some m56) ∧ ρ 60 = tv ∧ ρ 61 = .int .i64 (tz.length : Int) ∧ ρ 62 = .int .i64 (j : Int) ∧ Hold w F w' [rB gm 80 ([.pointer (some ⟨gp, 0, none⟩), .int .i64 s, .int .i64 b, .int .i64 (s * b), .int .i64 (tabs s b), .int .i64 (logs s b), .int .i64 (logs s b + s * b), .int .i64 (s * b - 2 * b), .int .i64 1, tv, .slice none 0 0, .slice none 0 0]), rPl gp (logs s b + s * b) rdf, rR kE 115 tv tz] ∧ j ≤ tz.length) (fun j => tz.length - j) 0 ?_ ?_
    · exact ⟨z0, z9, rfl, rfl, rfl, H12, by omega⟩
    clear H12
    rintro j ρ w513 ⟨y0, y9, y60, y61, y62, H13, hj⟩
    refine sq (rg (r (bi y62 y61 rfl) (re (sq ?_))))
    refine cp rfl (fun hlt => ?_) (fun hlt => ?_)
    · have hj' : j < tz.length := by omega
      have hzj := htz _ (List.getElem_mem hj')
      obtain ⟨_, R17⟩ : ∃ F, Kd.R kE w513 F tv tz := Hold.row H13 2 rfl
      refine sk (sq (bl (sq (rg ?_))))
      obtain ⟨c64_18, ad64_18, k64_18, e64_18, p64_18⟩ := Kd.R.place R17 j (hj')
      have q64_18 := en_at p64_18
      refine r (ix (j := j) Tryz.underlying58 ti115 (y60.trans e64_18) y62 (hj')) (r (la [.int .i64 ((tz[j]).1), .bool ((tz[j]).2)] Tryz.underlying115 rfl ti115 rfl rfl (fun m u h => (q64_18 m u h))) (ef (xal ti115) ?_))
      rintro _ w19 ⟨g11, e19, rfl, -, b19, c19⟩
      have H14 : Hold w F w19 [rB gm 80 ([.pointer (some ⟨gp, 0, none⟩), .int .i64 s, .int .i64 b, .int .i64 (s * b), .int .i64 (tabs s b), .int .i64 (logs s b), .int .i64 (logs s b + s * b), .int .i64 (s * b - 2 * b), .int .i64 1, tv, .slice none 0 0, .slice none 0 0]), rPl gp (logs s b + s * b) rdf, rR kE 115 tv tz, rB g11 115 ([.int .i64 0, .bool false])] := Hold.newB H13 e19 b19 c19
      clear H13
      clear e19 b19 c19
      have b20 : B w19 g11 115 ([.int .i64 0, .bool false]) := Hold.blk H14 3 rfl
      refine ef0 (xst (vs := [.int .i64 ((tz[j]).1), .bool ((tz[j]).2)]) ti115 rfl rfl rfl b20 rfl (Nat.le_of_ble_eq_true rfl) (one_all rfl)) ?_
      rintro w21 ⟨-, b21, c21⟩
      have H15 : Hold w F w21 [rB gm 80 ([.pointer (some ⟨gp, 0, none⟩), .int .i64 s, .int .i64 b, .int .i64 (s * b), .int .i64 (tabs s b), .int .i64 (logs s b), .int .i64 (logs s b + s * b), .int .i64 (s * b - 2 * b), .int .i64 1, tv, .slice none 0 0, .slice none 0 0]), rPl gp (logs s b + s * b) rdf, rR kE 115 tv tz, rB g11 115 ([.int .i64 ((tz[j]).1), .bool ((tz[j]).2)])] := Hold.setB H14 3 rfl b21 c21 rfl
      clear H14
      clear b21 c21
      have b22 : B w21 g11 115 ([.int .i64 ((tz[j]).1), .bool ((tz[j]).2)]) := Hold.blk H15 3 rfl
      refine re (sq (sq (rg (r (fa Tryz.underlying115 rfl ti2 rfl rfl) (r (Rn.cast (v' := .int .i64 0) (ldb Tryz.underlying2 rfl rfl b22 rfl) (congrArg (Value.int .i64) (by rw [hzj]))) (r (Rn.cast (v' := .bool true) (bi rfl rfl rfl) rfl) (re (ct rfl (ex rfl (rg (r (ad (a := (j : Int)) (b := 1) ((j : Int) + 1) y62 rfl (by omega)) (r (mv rfl) (re ?_)))))))))))))
      have H16 : Hold w F w21 [rB gm 80 ([.pointer (some ⟨gp, 0, none⟩), .int .i64 s, .int .i64 b, .int .i64 (s * b), .int .i64 (tabs s b), .int .i64 (logs s b), .int .i64 (logs s b + s * b), .int .i64 (s * b - 2 * b), .int .i64 1, tv, .slice none 0 0, .slice none 0 0]), rPl gp (logs s b + s * b) rdf, rR kE 115 tv tz] := (show Hold w F w21 ([rB gm 80 ([.pointer (some ⟨gp, 0, none⟩), .int .i64 s, .int .i64 b, .int .i64 (s * b), .int .i64 (tabs s b), .int .i64 (logs s b), .int .i64 (logs s b + s * b), .int .i64 (s * b - 2 * b), .int .i64 1, tv, .slice none 0 0, .slice none 0 0]), rPl gp (logs s b + s * b) rdf, rR kE 115 tv tz] ++ [rB g11 115 ([.int .i64 ((tz[j]).1), .bool ((tz[j]).2)])]) from Hold.re H15 [0, 1, 2, 3] (by kernel_rfl) (by rfl)).drop
      clear H15
      exact ag (j + 1) ⟨y0, y9, y60, y61, rfl, H16, by omega⟩ (by first | omega | (dsimp only; omega))
    · refine ex rfl (sq (rg (r (sa rfl) (re (rt ?_)))))
      exact fin1 (v := .bool true) Tryz.results25 rfl ⟨_, rfl, (by rw [← htz0]; exact H13)⟩
end Go.Proofs.YtanfhikfeabidaaGreatDoor

namespace Go.Proofs.YtanfhikfeabidaaGreatDoor
open Go Go.Eng
set_option maxRecDepth 100000
set_option maxHeartbeats 4000000
set_option linter.unusedVariables false
set_option linter.unusedSimpArgs false
theorem mt_inodes {w : World} {F : List Nat} {gm gp : Nat} {s b : Int} {tv : Value} {tz : List (Int × Bool)} (h : Hs w [rB gm 80 ([.pointer (some ⟨gp, 0, none⟩), .int .i64 s, .int .i64 b, .int .i64 (s * b), .int .i64 (tabs s b), .int .i64 (logs s b), .int .i64 (logs s b + s * b), .int .i64 (s * b - 2 * b), .int .i64 1, tv, .slice none 0 0, .slice none 0 0]), rR kE 115 tv tz] F) (nd : F.Nodup) (lt : tz.length ≤ 2000) (htz : ∀ x, x ∈ tz → x = (0, false)) : Ret Tryz.prog 26 #[.pointer (some ⟨gm, 0, none⟩)] w (fun r w' => ∃ iv, r = .bool true ∧ Hold w F w' [rB gm 80 ([.pointer (some ⟨gp, 0, none⟩), .int .i64 s, .int .i64 b, .int .i64 (s * b), .int .i64 (tabs s b), .int .i64 (logs s b), .int .i64 (logs s b + s * b), .int .i64 (s * b - 2 * b), .int .i64 1, tv, iv, .slice none 0 0]), rR kE 115 tv tz, rR kIno 129 iv (List.replicate tz.length false)]) := by
  refine enter Tryz.func26 rfl Tryz.ntmps26 (by rfl) (by rfl) ?_
  have H0 : Hold w F w [rB gm 80 ([.pointer (some ⟨gp, 0, none⟩), .int .i64 s, .int .i64 b, .int .i64 (s * b), .int .i64 (tabs s b), .int .i64 (logs s b), .int .i64 (logs s b + s * b), .int .i64 (s * b - 2 * b), .int .i64 1, tv, .slice none 0 0, .slice none 0 0]), rR kE 115 tv tz] := Hold.begin h nd
  refine sq (rg (ef (xbx (t := 44) rfl (cel1 rfl)) ?_))
  rintro _ w1 ⟨g1, e1, rfl, -, b1, c1⟩
  have H1 : Hold w F w1 [rB gm 80 ([.pointer (some ⟨gp, 0, none⟩), .int .i64 s, .int .i64 b, .int .i64 (s * b), .int .i64 (tabs s b), .int .i64 (logs s b), .int .i64 (logs s b + s * b), .int .i64 (s * b - 2 * b), .int .i64 1, tv, .slice none 0 0, .slice none 0 0]), rR kE 115 tv tz, rB g1 44 ([.pointer (some ⟨gm, 0, none⟩)])] := Hold.newB H0 e1 b1 c1
  clear H0
  clear e1 b1 c1
  refine r (sa rfl) (re (sq ?_))
  refine rde mixed ?_
  intro w2 c2
  have H2 : Hold w F w2 [rB gm 80 ([.pointer (some ⟨gp, 0, none⟩), .int .i64 s, .int .i64 b, .int .i64 (s * b), .int .i64 (tabs s b), .int .i64 (logs s b), .int .i64 (logs s b + s * b), .int .i64 (s * b - 2 * b), .int .i64 1, tv, .slice none 0 0, .slice none 0 0]), rR kE 115 tv tz, rB g1 44 ([.pointer (some ⟨gm, 0, none⟩)])] := Hold.t H1 c2
  clear H1
  clear c2
  obtain ⟨Fd3, hFd3, nd3, Kd3, Xd3, sd3⟩ := Hold.frontx (Γ := [rB gm 80 ([.pointer (some ⟨gp, 0, none⟩), .int .i64 s, .int .i64 b, .int .i64 (s * b), .int .i64 (tabs s b), .int .i64 (logs s b), .int .i64 (logs s b + s * b), .int .i64 (s * b - 2 * b), .int .i64 1, tv, .slice none 0 0, .slice none 0 0])]) (Δ := [rR kE 115 tv tz, rB g1 44 ([.pointer (some ⟨gm, 0, none⟩)])]) H2
  have H3d0 : Hold w2 Fd3 w2 [rB gm 80 ([.pointer (some ⟨gp, 0, none⟩), .int .i64 s, .int .i64 b, .int .i64 (s * b), .int .i64 (tabs s b), .int .i64 (logs s b), .int .i64 (logs s b + s * b), .int .i64 (s * b - 2 * b), .int .i64 1, tv, .slice none 0 0, .slice none 0 0])] := Hold.begin hFd3 nd3
  refine ⟨fun w' => Ch Fd3 w2 w', Ch.refl _ _, ?_⟩
  obtain ⟨_, ⟨rfl, b4⟩, x4⟩ := Xd3 1 (rB g1 44 ([.pointer (some ⟨gm, 0, none⟩)])) rfl
  have b5 : B w2 gm 80 ([.pointer (some ⟨gp, 0, none⟩), .int .i64 s, .int .i64 b, .int .i64 (s * b), .int .i64 (tabs s b), .int .i64 (logs s b), .int .i64 (logs s b + s * b), .int .i64 (s * b - 2 * b), .int .i64 1, tv, .slice none 0 0, .slice none 0 0]) := Hold.blk H3d0 0 rfl
  refine edt 0 rfl (by kernel_rfl) (fun w' hS => ldb Tryz.underlying44 rfl rfl (hS.b b4 (x4 _ (by simp))) rfl) (edt 1 rfl (by kernel_rfl) (fun w' hS => ldb Tryz.underlying44 rfl rfl (hS.b b4 (x4 _ (by simp))) rfl) (edt 2 rfl (by kernel_rfl) (fun w' hS => nck rfl) (edt 3 rfl (by kernel_rfl) (fun w' hS => fa Tryz.underlying80 rfl ti58 rfl rfl) (ed1 4 (by kernel_rfl) <| eur rfl (ldb Tryz.underlying58 rfl rfl b5 rfl) (.inr (Hold.ch H3d0)) ?_))))
  obtain ⟨_, R6, x6⟩ := Xd3 0 (rR kE 115 tv tz) rfl
  replace R6 := Kd.W.R R6
  refine edt 5 rfl (by kernel_rfl) (fun w' hS => ln Tryz.underlying58 rfl ((R6.tt hS x6))) (ed1 6 (by kernel_rfl) <| euf rfl (xmk (dk := kIno) (m := tz.length) false Tryz.underlying77 ti129 (fun _ => ⟨rfl, rfl⟩) rfl rfl (by omega)) ?_)
  rintro v7 w7 N7
  have H3d : Hold w2 Fd3 w7 [rB gm 80 ([.pointer (some ⟨gp, 0, none⟩), .int .i64 s, .int .i64 b, .int .i64 (s * b), .int .i64 (tabs s b), .int .i64 (logs s b), .int .i64 (logs s b + s * b), .int .i64 (s * b - 2 * b), .int .i64 1, tv, .slice none 0 0, .slice none 0 0]), rR kIno 129 v7 (List.replicate tz.length false)] := Hold.newr H3d0 N7
  clear H3d0
  refine ⟨.inr (Hold.ch H3d), ?_⟩
  have H4 : Hold w F w7 [rB gm 80 ([.pointer (some ⟨gp, 0, none⟩), .int .i64 s, .int .i64 b, .int .i64 (s * b), .int .i64 (tabs s b), .int .i64 (logs s b), .int .i64 (logs s b + s * b), .int .i64 (s * b - 2 * b), .int .i64 1, tv, .slice none 0 0, .slice none 0 0]), rR kIno 129 v7 (List.replicate tz.length false), rR kE 115 tv tz, rB g1 44 ([.pointer (some ⟨gm, 0, none⟩)])] := Hold.call Kd3 H3d
  clear H3d H2
  have b8 : B w7 gm 80 ([.pointer (some ⟨gp, 0, none⟩), .int .i64 s, .int .i64 b, .int .i64 (s * b), .int .i64 (tabs s b), .int .i64 (logs s b), .int .i64 (logs s b + s * b), .int .i64 (s * b - 2 * b), .int .i64 1, tv, .slice none 0 0, .slice none 0 0]) := Hold.blk H4 0 rfl
  obtain ⟨_, R10⟩ : ∃ F, Kd.R kIno w7 F v7 (List.replicate tz.length false) := Hold.row H4 1 rfl
  refine edt 7 rfl (by kernel_rfl) (fun w' hS => nck rfl) (edt 8 rfl (by kernel_rfl) (fun w' hS => fa Tryz.underlying80 rfl ti77 rfl rfl) (ed1 9 (by kernel_rfl) <| euf0 rfl (xst (vs := [v7]) ti77 rfl rfl (cel1 (R10).oneCell) b8 rfl (Nat.le_of_ble_eq_true rfl) (ones1 (R10).oneCell)) ?_))
  rintro w9 ⟨-, b9, c9⟩
  have H5 : Hold w F w9 [rB gm 80 ([.pointer (some ⟨gp, 0, none⟩), .int .i64 s, .int .i64 b, .int .i64 (s * b), .int .i64 (tabs s b), .int .i64 (logs s b), .int .i64 (logs s b + s * b), .int .i64 (s * b - 2 * b), .int .i64 1, tv, v7, .slice none 0 0]), rR kIno 129 v7 (List.replicate tz.length false), rR kE 115 tv tz, rB g1 44 ([.pointer (some ⟨gm, 0, none⟩)])] := Hold.setB H4 0 rfl b9 c9 rfl
  clear H4
  clear b9 c9
  refine ⟨.inl (by kernel_rfl), ?_⟩
  refine edd (by kernel_rfl) ?_
  refine sq ?_
  refine gen (fun ρ => ρ 1 = .pointer (some ⟨g1, 0, none⟩) ∧ ρ 2 = .bool false ∧ True) ⟨rfl, rfl, trivial⟩ ?_
  rintro ρ ⟨z1, z2, -⟩
  refine rg (ef (xal ti126) ?_)
  rintro _ w11 ⟨g3, e11, rfl, -, b11, c11⟩
  have H6 : Hold w F w11 [rB gm 80 ([.pointer (some ⟨gp, 0, none⟩), .int .i64 s, .int .i64 b, .int .i64 (s * b), .int .i64 (tabs s b), .int .i64 (logs s b), .int .i64 (logs s b + s * b), .int .i64 (s * b - 2 * b), .int .i64 1, tv, v7, .slice none 0 0]), rR kIno 129 v7 (List.replicate tz.length false), rR kE 115 tv tz, rB g1 44 ([.pointer (some ⟨gm, 0, none⟩)]), rB g3 126 ([.int .u64 0, .int .u32 0])] := Hold.newB H5 e11 b11 c11
  clear H5
  clear e11 b11 c11
  have b12 : B w11 g1 44 ([.pointer (some ⟨gm, 0, none⟩)]) := Hold.blk H6 3 rfl
  have b13 : B w11 gm 80 ([.pointer (some ⟨gp, 0, none⟩), .int .i64 s, .int .i64 b, .int .i64 (s * b), .int .i64 (tabs s b), .int .i64 (logs s b), .int .i64 (logs s b + s * b), .int .i64 (s * b - 2 * b), .int .i64 1, tv, v7, .slice none 0 0]) := Hold.blk H6 0 rfl
  obtain ⟨_, R14⟩ : ∃ F, Kd.R kE w11 F tv tz := Hold.row H6 2 rfl
  refine re (sq (sq (rg (r (ldb Tryz.underlying44 rfl z1 b12 rfl) (r (nck rfl) (r (fa Tryz.underlying80 rfl ti58 rfl rfl) (r (ldb Tryz.underlying58 rfl rfl b13 rfl) (r (ln Tryz.underlying58 rfl (R14)) (r (mv rfl) (re (bl ?_)))))))))))
  have H7 : Hold w F w11 [rB gm 80 ([.pointer (some ⟨gp, 0, none⟩), .int .i64 s, .int .i64 b, .int .i64 (s * b), .int .i64 (tabs s b), .int .i64 (logs s b), .int .i64 (logs s b + s * b), .int .i64 (s * b - 2 * b), .int .i64 1, tv, v7, .slice none 0 0]), rR kE 115 tv tz, rR kIno 129 v7 (List.replicate tz.length false), rB g1 44 ([.pointer (some ⟨gm, 0, none⟩)]), rB g3 126 ([.int .u64 0, .int .u32 0])] := Hold.re H6 [0, 2, 1, 3, 4] (by kernel_rfl) (by rfl)
  clear H6
  refine lp (α := Nat) (fun j ρ w' => ρ 1 = .pointer (some ⟨g1, 0, none⟩) ∧ ρ 3 = .pointer (some ⟨g3, 0, none⟩) ∧ ρ 20 = tv ∧ ρ 21 = .int .i64 (tz.length : Int) ∧ ρ 22 = .int .i64 (j : Int) ∧ Hold w F w' [rB gm 80 ([.pointer (some ⟨gp, 0, none⟩), .int .i64 s, .int .i64 b, .int .i64 (s * b), .int .i64 (tabs s b), .int .i64 (logs s b), .int .i64 (logs s b + s * b), .int .i64 (s * b - 2 * b), .int .i64 1, tv, v7, .slice none 0 0]), rR kE 115 tv tz, rR kIno 129 v7 (List.replicate tz.length false), rB g1 44 ([.pointer (some ⟨gm, 0, none⟩)]), rB g3 126 ([.int .u64 0, .int .u32 0])] ∧ j ≤ tz.length) (fun j => tz.length - j) 0 ?_ ?_
  · exact ⟨z1, rfl, rfl, rfl, rfl, H7, by omega⟩
  clear H7
  rintro j ρ w508 ⟨y1, y3, y20, y21, y22, H8, hj⟩
  refine sq (rg (r (bi y22 y21 rfl) (re (sq ?_))))
  refine cp rfl (fun hlt => ?_) (fun hlt => ?_)
  · have hj' : j < tz.length := by omega
    have hzj := htz _ (List.getElem_mem hj')
    obtain ⟨_, R15⟩ : ∃ F, Kd.R kE w508 F tv tz := Hold.row H8 1 rfl
    refine sk (sq (bl (sq (rg (r (mv y22) ?_)))))
    obtain ⟨c25_16, ad25_16, k25_16, e25_16, p25_16⟩ := Kd.R.place R15 j (hj')
    have q25_16 := en_at p25_16
    refine r (ix (j := j) Tryz.underlying58 ti115 (y20.trans e25_16) y22 (hj')) (r (la [.int .i64 ((tz[j]).1), .bool ((tz[j]).2)] Tryz.underlying115 rfl ti115 rfl rfl (fun m u h => (q25_16 m u h))) (ef (xal ti3) ?_))
    rintro _ w17 ⟨g4, e17, rfl, -, b17, c17⟩
    have H9 : Hold w F w17 [rB gm 80 ([.pointer (some ⟨gp, 0, none⟩), .int .i64 s, .int .i64 b, .int .i64 (s * b), .int .i64 (tabs s b), .int .i64 (logs s b), .int .i64 (logs s b + s * b), .int .i64 (s * b - 2 * b), .int .i64 1, tv, v7, .slice none 0 0]), rR kE 115 tv tz, rR kIno 129 v7 (List.replicate tz.length false), rB g1 44 ([.pointer (some ⟨gm, 0, none⟩)]), rB g3 126 ([.int .u64 0, .int .u32 0]), rB g4 3 ([.int .i64 0])] := Hold.newB H8 e17 b17 c17
    clear H8
    clear e17 b17 c17
    refine ef (xal ti115) ?_
    rintro _ w18 ⟨g5, e18, rfl, -, b18, c18⟩
    have H10 : Hold w F w18 [rB gm 80 ([.pointer (some ⟨gp, 0, none⟩), .int .i64 s, .int .i64 b, .int .i64 (s * b), .int .i64 (tabs s b), .int .i64 (logs s b), .int .i64 (logs s b + s * b), .int .i64 (s * b - 2 * b), .int .i64 1, tv, v7, .slice none 0 0]), rR kE 115 tv tz, rR kIno 129 v7 (List.replicate tz.length false), rB g1 44 ([.pointer (some ⟨gm, 0, none⟩)]), rB g3 126 ([.int .u64 0, .int .u32 0]), rB g4 3 ([.int .i64 0]), rB g5 115 ([.int .i64 0, .bool false])] := Hold.newB H9 e18 b18 c18
    clear H9
    clear e18 b18 c18
    have b19 : B w18 g4 3 ([.int .i64 0]) := Hold.blk H10 5 rfl
    refine ef0 (xst (vs := [.int .i64 (j : Int)]) ti3 rfl rfl (cel1 rfl) b19 rfl (Nat.le_of_ble_eq_true rfl) (one_all rfl)) ?_
    rintro w20 ⟨-, b20, c20⟩
    have H11 : Hold w F w20 [rB gm 80 ([.pointer (some ⟨gp, 0, none⟩), .int .i64 s, .int .i64 b, .int .i64 (s * b), .int .i64 (tabs s b), .int .i64 (logs s b), .int .i64 (logs s b + s * b), .int .i64 (s * b - 2 * b), .int .i64 1, tv, v7, .slice none 0 0]), rR kE 115 tv tz, rR kIno 129 v7 (List.replicate tz.length false), rB g1 44 ([.pointer (some ⟨gm, 0, none⟩)]), rB g3 126 ([.int .u64 0, .int .u32 0]), rB g4 3 ([.int .i64 (j : Int)]), rB g5 115 ([.int .i64 0, .bool false])] := Hold.setB H10 5 rfl b20 c20 rfl
    clear H10
    clear b20 c20
    have b21 : B w20 g5 115 ([.int .i64 0, .bool false]) := Hold.blk H11 6 rfl
    refine ef0 (xst (vs := [.int .i64 ((tz[j]).1), .bool ((tz[j]).2)]) ti115 rfl rfl rfl b21 rfl (Nat.le_of_ble_eq_true rfl) (one_all rfl)) ?_
    rintro w22 ⟨-, b22, c22⟩
    have H12 : Hold w F w22 [rB gm 80 ([.pointer (some ⟨gp, 0, none⟩), .int .i64 s, .int .i64 b, .int .i64 (s * b), .int .i64 (tabs s b), .int .i64 (logs s b), .int .i64 (logs s b + s * b), .int .i64 (s * b - 2 * b), .int .i64 1, tv, v7, .slice none 0 0]), rR kE 115 tv tz, rR kIno 129 v7 (List.replicate tz.length false), rB g1 44 ([.pointer (some ⟨gm, 0, none⟩)]), rB g3 126 ([.int .u64 0, .int .u32 0]), rB g4 3 ([.int .i64 (j : Int)]), rB g5 115 ([.int .i64 ((tz[j]).1), .bool ((tz[j]).2)])] := Hold.setB H11 6 rfl b22 c22 rfl
    clear H11
    clear b22 c22
    have b23 : B w22 g5 115 ([.int .i64 ((tz[j]).1), .bool ((tz[j]).2)]) := Hold.blk H12 6 rfl
    refine re (sq (rg (r (fa Tryz.underlying115 rfl ti4 rfl rfl) (r (Rn.cast (v' := .bool false) (ldb Tryz.underlying4 rfl rfl b23 rfl) (congrArg Value.bool (by rw [hzj]))) (re (cf rfl (sk (be (rg (r (ad (a := (j : Int)) (b := 1) ((j : Int) + 1) y22 rfl (by omega)) (r (mv rfl) (re ?_))))))))))))
    have H13 : Hold w F w22 [rB gm 80 ([.pointer (some ⟨gp, 0, none⟩), .int .i64 s, .int .i64 b, .int .i64 (s * b), .int .i64 (tabs s b), .int .i64 (logs s b), .int .i64 (logs s b + s * b), .int .i64 (s * b - 2 * b), .int .i64 1, tv, v7, .slice none 0 0]), rR kE 115 tv tz, rR kIno 129 v7 (List.replicate tz.length false), rB g1 44 ([.pointer (some ⟨gm, 0, none⟩)]), rB g3 126 ([.int .u64 0, .int .u32 0])] := (show Hold w F w22 ([rB gm 80 ([.pointer (some ⟨gp, 0, none⟩), .int .i64 s, .int .i64 b, .int .i64 (s * b), .int .i64 (tabs s b), .int .i64 (logs s b), .int .i64 (logs s b + s * b), .int .i64 (s * b - 2 * b), .int .i64 1, tv, v7, .slice none 0 0]), rR kE 115 tv tz, rR kIno 129 v7 (List.replicate tz.length false), rB g1 44 ([.pointer (some ⟨gm, 0, none⟩)]), rB g3 126 ([.int .u64 0, .int .u32 0])] ++ [rB g4 3 ([.int .i64 (j : Int)]), rB g5 115 ([.int .i64 ((tz[j]).1), .bool ((tz[j]).2)])]) from Hold.re H12 [0, 1, 2, 3, 4, 5, 6] (by kernel_rfl) (by rfl)).drop
    clear H12
    exact ag (j + 1) ⟨y1, y3, y20, y21, rfl, H13, by omega⟩ (by first | omega | (dsimp only; omega))
  · have b16 : B w508 g3 126 ([.int .u64 0, .int .u32 0]) := Hold.blk H8 4 rfl
    refine ex rfl (sq (rg (cl go47 (group_Wait b16) (ac y3 an) ?_)))
    rintro _ wg cg
    have H9 : Hold w F wg [rB gm 80 ([.pointer (some ⟨gp, 0, none⟩), .int .i64 s, .int .i64 b, .int .i64 (s * b), .int .i64 (tabs s b), .int .i64 (logs s b), .int .i64 (logs s b + s * b), .int .i64 (s * b - 2 * b), .int .i64 1, tv, v7, .slice none 0 0]), rR kE 115 tv tz, rR kIno 129 v7 (List.replicate tz.length false), rB g1 44 ([.pointer (some ⟨gm, 0, none⟩)]), rB g3 126 ([.int .u64 0, .int .u32 0])] := Hold.t H8 cg
    clear H8
    clear cg
    have b17 : B wg g1 44 ([.pointer (some ⟨gm, 0, none⟩)]) := Hold.blk H9 3 rfl
    have b18 : B wg gm 80 ([.pointer (some ⟨gp, 0, none⟩), .int .i64 s, .int .i64 b, .int .i64 (s * b), .int .i64 (tabs s b), .int .i64 (logs s b), .int .i64 (logs s b + s * b), .int .i64 (s * b - 2 * b), .int .i64 1, tv, v7, .slice none 0 0]) := Hold.blk H9 0 rfl
    obtain ⟨_, R19⟩ : ∃ F, Kd.R kE wg F tv tz := Hold.row H9 1 rfl
    refine re (sq (sq (rg (r (ldb Tryz.underlying44 rfl y1 b17 rfl) (r (nck rfl) (r (fa Tryz.underlying80 rfl ti58 rfl rfl) (r (ldb Tryz.underlying58 rfl rfl b18 rfl) (r (ln Tryz.underlying58 rfl (R19)) (r (mv rfl) (re (bl ?_)))))))))))
    have H10 : Hold w F wg [rB gm 80 ([.pointer (some ⟨gp, 0, none⟩), .int .i64 s, .int .i64 b, .int .i64 (s * b), .int .i64 (tabs s b), .int .i64 (logs s b), .int .i64 (logs s b + s * b), .int .i64 (s * b - 2 * b), .int .i64 1, tv, v7, .slice none 0 0]), rR kE 115 tv tz, rR kIno 129 v7 (List.replicate tz.length false), rB g1 44 ([.pointer (some ⟨gm, 0, none⟩)])] := (show Hold w F wg ([rB gm 80 ([.pointer (some ⟨gp, 0, none⟩), .int .i64 s, .int .i64 b, .int .i64 (s * b), .int .i64 (tabs s b), .int .i64 (logs s b), .int .i64 (logs s b + s * b), .int .i64 (s * b - 2 * b), .int .i64 1, tv, v7, .slice none 0 0]), rR kE 115 tv tz, rR kIno 129 v7 (List.replicate tz.length false), rB g1 44 ([.pointer (some ⟨gm, 0, none⟩)])] ++ [rB g3 126 ([.int .u64 0, .int .u32 0])]) from Hold.re H9 [0, 1, 2, 3, 4] (by kernel_rfl) (by rfl)).drop
    clear H9
    refine lp (α := Nat) (fun j2 ρ w' => ρ 1 = .pointer (some ⟨g1, 0, none⟩) ∧ ρ 36 = tv ∧ ρ 37 = .int .i64 (tz.length : Int) ∧ ρ 38 = .int .i64 (j2 : Int) ∧ Hold w F w' [rB gm 80 ([.pointer (some ⟨gp, 0, none⟩), .int .i64 s, .int .i64 b, .int .i64 (s * b), .int .i64 (tabs s b), .int .i64 (logs s b), .int .i64 (logs s b + s * b), .int .i64 (s * b - 2 * b), .int .i64 1, tv, v7, .slice none 0 0]), rR kE 115 tv tz, rR kIno 129 v7 (List.replicate tz.length false), rB g1 44 ([.pointer (some ⟨gm, 0, none⟩)])] ∧ j2 ≤ tz.length) (fun j2 => tz.length - j2) 0 ?_ ?_
    · exact ⟨y1, rfl, rfl, rfl, H10, by omega⟩
    clear H10
    rintro j2 ρ w511 ⟨y1, y36, y37, y38, H11, hj2⟩
    refine sq (rg (r (bi y38 y37 rfl) (re (sq ?_))))
    refine cp rfl (fun hlt2 => ?_) (fun hlt2 => ?_)
    · have hj' : j2 < tz.length := by omega
      have hzj := htz _ (List.getElem_mem hj')
      obtain ⟨_, R20⟩ : ∃ F, Kd.R kE w511 F tv tz := Hold.row H11 1 rfl
      refine sk (sq (bl (sq (rg (r (mv y38) ?_)))))
      obtain ⟨c41_21, ad41_21, k41_21, e41_21, p41_21⟩ := Kd.R.place R20 j2 (hj')
      have q41_21 := en_at p41_21
      refine r (ix (j := j2) Tryz.underlying58 ti115 (y36.trans e41_21) y38 (hj')) (r (la [.int .i64 ((tz[j2]).1), .bool ((tz[j2]).2)] Tryz.underlying115 rfl ti115 rfl rfl (fun m u h => (q41_21 m u h))) (ef (xal ti115) ?_))
      rintro _ w22 ⟨g7, e22, rfl, -, b22, c22⟩
      have H12 : Hold w F w22 [rB gm 80 ([.pointer (some ⟨gp, 0, none⟩), .int .i64 s, .int .i64 b, .int .i64 (s * b), .int .i64 (tabs s b), .int .i64 (logs s b), .int .i64 (logs s b + s * b), .int .i64 (s * b - 2 * b), .int .i64 1, tv, v7, .slice none 0 0]), rR kE 115 tv tz, rR kIno 129 v7 (List.replicate tz.length false), rB g1 44 ([.pointer (some ⟨gm, 0, none⟩)]), rB g7 115 ([.int .i64 0, .bool false])] := Hold.newB H11 e22 b22 c22
      clear H11
      clear e22 b22 c22
      have b23 : B w22 g7 115 ([.int .i64 0, .bool false]) := Hold.blk H12 4 rfl
      refine r (sa rfl) (ef0 (xst (vs := [.int .i64 ((tz[j2]).1), .bool ((tz[j2]).2)]) ti115 rfl rfl rfl b23 rfl (Nat.le_of_ble_eq_true rfl) (one_all rfl)) ?_)
      rintro w24 ⟨-, b24, c24⟩
      have H13 : Hold w F w24 [rB gm 80 ([.pointer (some ⟨gp, 0, none⟩), .int .i64 s, .int .i64 b, .int .i64 (s * b), .int .i64 (tabs s b), .int .i64 (logs s b), .int .i64 (logs s b + s * b), .int .i64 (s * b - 2 * b), .int .i64 1, tv, v7, .slice none 0 0]), rR kE 115 tv tz, rR kIno 129 v7 (List.replicate tz.length false), rB g1 44 ([.pointer (some ⟨gm, 0, none⟩)]), rB g7 115 ([.int .i64 ((tz[j2]).1), .bool ((tz[j2]).2)])] := Hold.setB H12 4 rfl b24 c24 rfl
      clear H12
      clear b24 c24
      have b25 : B w24 g7 115 ([.int .i64 ((tz[j2]).1), .bool ((tz[j2]).2)]) := Hold.blk H13 4 rfl
      refine re (sq (rg (r (fa Tryz.underlying115 rfl ti4 rfl rfl) (r (Rn.cast (v' := .bool false) (ldb Tryz.underlying4 rfl rfl b25 rfl) (congrArg Value.bool (by rw [hzj]))) (r (Rn.cast (v' := .bool false) (mv rfl) rfl) (gn rfl rfl rfl (gn rfl rfl rfl (gn rfl rfl rfl (gn rfl rfl rfl (gn rfl rfl rfl (gn rfl rfl rfl (gn rfl rfl rfl (gn rfl rfl rfl (gn rfl rfl rfl (r (Rn.cast (v' := .bool false) (pk rfl rfl) rfl) (re (cf rfl (sk (be ?_)))))))))))))))))))
      refine gen (fun ρ => ρ 1 = .pointer (some ⟨g1, 0, none⟩) ∧ ρ 36 = tv ∧ ρ 37 = .int .i64 (tz.length : Int) ∧ ρ 38 = .int .i64 (j2 : Int) ∧ True) ⟨y1, y36, y37, y38, trivial⟩ ?_
      rintro ρ ⟨z1, z36, z37, z38, -⟩
      refine rg (r (ad (a := (j2 : Int)) (b := 1) ((j2 : Int) + 1) z38 rfl (by omega)) (r (mv rfl) (re ?_)))
      have H14 : Hold w F w24 [rB gm 80 ([.pointer (some ⟨gp, 0, none⟩), .int .i64 s, .int .i64 b, .int .i64 (s * b), .int .i64 (tabs s b), .int .i64 (logs s b), .int .i64 (logs s b + s * b), .int .i64 (s * b - 2 * b), .int .i64 1, tv, v7, .slice none 0 0]), rR kE 115 tv tz, rR kIno 129 v7 (List.replicate tz.length false), rB g1 44 ([.pointer (some ⟨gm, 0, none⟩)])] := (show Hold w F w24 ([rB gm 80 ([.pointer (some ⟨gp, 0, none⟩), .int .i64 s, .int .i64 b, .int .i64 (s * b), .int .i64 (tabs s b), .int .i64 (logs s b), .int .i64 (logs s b + s * b), .int .i64 (s * b - 2 * b), .int .i64 1, tv, v7, .slice none 0 0]), rR kE 115 tv tz, rR kIno 129 v7 (List.replicate tz.length false), rB g1 44 ([.pointer (some ⟨gm, 0, none⟩)])] ++ [rB g7 115 ([.int .i64 ((tz[j2]).1), .bool ((tz[j2]).2)])]) from Hold.re H13 [0, 1, 2, 3, 4] (by kernel_rfl) (by rfl)).drop
      clear H13
      exact ag (j2 + 1) ⟨z1, z36, z37, rfl, H14, by omega⟩ (by first | omega | (dsimp only; omega))
    · refine ex rfl (sq (rg (r (sa rfl) (re (rt ?_)))))
      have H12 : Hold w F w511 [rB gm 80 ([.pointer (some ⟨gp, 0, none⟩), .int .i64 s, .int .i64 b, .int .i64 (s * b), .int .i64 (tabs s b), .int .i64 (logs s b), .int .i64 (logs s b + s * b), .int .i64 (s * b - 2 * b), .int .i64 1, tv, v7, .slice none 0 0]), rR kE 115 tv tz, rR kIno 129 v7 (List.replicate tz.length false)] := (show Hold w F w511 ([rB gm 80 ([.pointer (some ⟨gp, 0, none⟩), .int .i64 s, .int .i64 b, .int .i64 (s * b), .int .i64 (tabs s b), .int .i64 (logs s b), .int .i64 (logs s b + s * b), .int .i64 (s * b - 2 * b), .int .i64 1, tv, v7, .slice none 0 0]), rR kE 115 tv tz, rR kIno 129 v7 (List.replicate tz.length false)] ++ [rB g1 44 ([.pointer (some ⟨gm, 0, none⟩)])]) from Hold.re H11 [0, 1, 2, 3] (by kernel_rfl) (by rfl)).drop
      clear H11
      exact fin1 (v := .bool true) Tryz.results26 rfl ⟨_, rfl, H12⟩
theorem mt_files {w : World} {F : List Nat} {gm gp : Nat} {s b : Int} {tv iv : Value} {tz : List (Int × Bool)} {vz : List Bool} (h : Hs w [rB gm 80 ([.pointer (some ⟨gp, 0, none⟩), .int .i64 s, .int .i64 b, .int .i64 (s * b), .int .i64 (tabs s b), .int .i64 (logs s b), .int .i64 (logs s b + s * b), .int .i64 (s * b - 2 * b), .int .i64 1, tv, iv, .slice none 0 0]), rR kE 115 tv tz, rR kIno 129 iv vz] F) (nd : F.Nodup) (lt : tz.length ≤ 2000) (htz : ∀ x, x ∈ tz → x = (0, false)) (lv : vz.length ≤ 2000) (hvz : ∀ x, x ∈ vz → x = false) : Ret Tryz.prog 27 #[.pointer (some ⟨gm, 0, none⟩)] w (fun r w' => r = .bool true ∧ Hold w F w' [rB gm 80 ([.pointer (some ⟨gp, 0, none⟩), .int .i64 s, .int .i64 b, .int .i64 (s * b), .int .i64 (tabs s b), .int .i64 (logs s b), .int .i64 (logs s b + s * b), .int .i64 (s * b - 2 * b), .int .i64 1, tv, iv, .slice none 0 0]), rR kE 115 tv tz, rR kIno 129 iv vz]) := by
  refine enter Tryz.func27 rfl Tryz.ntmps27 (by rfl) (by rfl) ?_
  have H0 : Hold w F w [rB gm 80 ([.pointer (some ⟨gp, 0, none⟩), .int .i64 s, .int .i64 b, .int .i64 (s * b), .int .i64 (tabs s b), .int .i64 (logs s b), .int .i64 (logs s b + s * b), .int .i64 (s * b - 2 * b), .int .i64 1, tv, iv, .slice none 0 0]), rR kE 115 tv tz, rR kIno 129 iv vz] := Hold.begin h nd
  refine sq (rg (r (sa rfl) (re (sq (rg (ef (xmm) ?_))))))
  rintro _ w1 ⟨m18, e1, rfl, b1, c1⟩
  have H1 : Hold w F w1 [rB gm 80 ([.pointer (some ⟨gp, 0, none⟩), .int .i64 s, .int .i64 b, .int .i64 (s * b), .int .i64 (tabs s b), .int .i64 (logs s b), .int .i64 (logs s b + s * b), .int .i64 (s * b - 2 * b), .int .i64 1, tv, iv, .slice none 0 0]), rR kE 115 tv tz, rR kIno 129 iv vz, rM m18 (fun _ => none)] := Hold.newM H0 e1 b1 c1
  clear H0
  clear e1 b1 c1
  refine r (sa rfl) (re (sq (rg (ef (xmms) ?_))))
  rintro _ w2 ⟨m19, e2, rfl, b2, c2⟩
  have H2 : Hold w F w2 [rB gm 80 ([.pointer (some ⟨gp, 0, none⟩), .int .i64 s, .int .i64 b, .int .i64 (s * b), .int .i64 (tabs s b), .int .i64 (logs s b), .int .i64 (logs s b + s * b), .int .i64 (s * b - 2 * b), .int .i64 1, tv, iv, .slice none 0 0]), rR kE 115 tv tz, rR kIno 129 iv vz, rM m18 (fun _ => none), rMS m19 []] := Hold.newMS H1 e2 b2 c2
  clear H1
  clear e2 b2 c2
  have b3 : B w2 gm 80 ([.pointer (some ⟨gp, 0, none⟩), .int .i64 s, .int .i64 b, .int .i64 (s * b), .int .i64 (tabs s b), .int .i64 (logs s b), .int .i64 (logs s b + s * b), .int .i64 (s * b - 2 * b), .int .i64 1, tv, iv, .slice none 0 0]) := Hold.blk H2 0 rfl
  obtain ⟨_, R4⟩ : ∃ F, Kd.R kIno w2 F iv vz := Hold.row H2 2 rfl
  refine r (sa rfl) (re (sq (sq (rg (r (mv rfl) (r (nck rfl) (r (fa Tryz.underlying80 rfl ti77 rfl rfl) (r (ldb Tryz.underlying77 rfl rfl b3 rfl) (r (ln Tryz.underlying77 rfl (R4)) (r (mv rfl) (re (bl ?_))))))))))))
  have H3 : Hold w F w2 [rB gm 80 ([.pointer (some ⟨gp, 0, none⟩), .int .i64 s, .int .i64 b, .int .i64 (s * b), .int .i64 (tabs s b), .int .i64 (logs s b), .int .i64 (logs s b + s * b), .int .i64 (s * b - 2 * b), .int .i64 1, tv, iv, .slice none 0 0]), rR kE 115 tv tz, rR kIno 129 iv vz, rM m18 (fun _ => none)] := (show Hold w F w2 ([rB gm 80 ([.pointer (some ⟨gp, 0, none⟩), .int .i64 s, .int .i64 b, .int .i64 (s * b), .int .i64 (tabs s b), .int .i64 (logs s b), .int .i64 (logs s b + s * b), .int .i64 (s * b - 2 * b), .int .i64 1, tv, iv, .slice none 0 0]), rR kE 115 tv tz, rR kIno 129 iv vz, rM m18 (fun _ => none)] ++ [rMS m19 []]) from Hold.re H2 [0, 1, 2, 3, 4] (by kernel_rfl) (by rfl)).drop
  clear H2
  refine lp (α := Nat) (fun j ρ w' => ρ 0 = .pointer (some ⟨gm, 0, none⟩) ∧ ρ 3 = .map (some m18) ∧ ρ 4 = .map (some m19) ∧ ρ 23 = iv ∧ ρ 24 = .int .i64 (vz.length : Int) ∧ ρ 25 = .int .i64 (j : Int) ∧ Hold w F w' [rB gm 80 ([.pointer (some ⟨gp, 0, none⟩), .int .i64 s, .int .i64 b, .int .i64 (s * b), .int .i64 (tabs s b), .int .i64 (logs s b), .int .i64 (logs s b + s * b), .int .i64 (s * b - 2 * b), .int .i64 1, tv, iv, .slice none 0 0]), rR kE 115 tv tz, rR kIno 129 iv vz, rM m18 (fun _ => none)] ∧ j ≤ vz.length) (fun j => vz.length - j) 0 ?_ ?_
  · exact ⟨rfl, rfl, rfl, rfl, rfl, rfl, H3, by omega⟩
  clear H3
  rintro j ρ w504 ⟨y0, y3, y4, y23, y24, y25, H4, hj⟩
  refine sq (rg (r (bi y25 y24 rfl) (re (sq ?_))))
  refine cp rfl (fun hlt => ?_) (fun hlt => ?_)
  · have hj' : j < vz.length := by omega
    have hzj := hvz _ (List.getElem_mem hj')
    obtain ⟨_, R5⟩ : ∃ F, Kd.R kIno w504 F iv vz := Hold.row H4 2 rfl
    refine sk (sq (bl (sq (rg (r (mv y25) ?_)))))
    obtain ⟨c28_6, ad28_6, k28_6, e28_6, p28_6⟩ := Kd.R.place R5 j (hj')
    have q28_6 := flat_at p28_6
    refine r (ix (j := j) Tryz.underlying77 ti129 (y23.trans e28_6) y25 (hj')) (r (la [.bool (vz[j]), .string (⟨#[]⟩ : ByteArray), .int .i64 0, .slice none 0 0] Tryz.underlying129 rfl ti129 rfl rfl (fun m u h => (q28_6 m u h))) (ef (xal ti129) ?_))
    rintro _ w7 ⟨g6, e7, rfl, -, b7, c7⟩
    have H5 : Hold w F w7 [rB gm 80 ([.pointer (some ⟨gp, 0, none⟩), .int .i64 s, .int .i64 b, .int .i64 (s * b), .int .i64 (tabs s b), .int .i64 (logs s b), .int .i64 (logs s b + s * b), .int .i64 (s * b - 2 * b), .int .i64 1, tv, iv, .slice none 0 0]), rR kE 115 tv tz, rR kIno 129 iv vz, rM m18 (fun _ => none), rB g6 129 ([.bool false, .string ⟨#[]⟩, .int .i64 0, .slice none 0 0])] := Hold.newB H4 e7 b7 c7
    clear H4
    clear e7 b7 c7
    have b8 : B w7 g6 129 ([.bool false, .string ⟨#[]⟩, .int .i64 0, .slice none 0 0]) := Hold.blk H5 4 rfl
    refine r (sa rfl) (ef0 (xst (vs := [.bool (vz[j]), .string (⟨#[]⟩ : ByteArray), .int .i64 0, .slice none 0 0]) ti129 rfl rfl rfl b8 rfl (Nat.le_of_ble_eq_true rfl) (one_all rfl)) ?_)
    rintro w9 ⟨-, b9, c9⟩
    have H6 : Hold w F w9 [rB gm 80 ([.pointer (some ⟨gp, 0, none⟩), .int .i64 s, .int .i64 b, .int .i64 (s * b), .int .i64 (tabs s b), .int .i64 (logs s b), .int .i64 (logs s b + s * b), .int .i64 (s * b - 2 * b), .int .i64 1, tv, iv, .slice none 0 0]), rR kE 115 tv tz, rR kIno 129 iv vz, rM m18 (fun _ => none), rB g6 129 ([.bool (vz[j]), .string (⟨#[]⟩ : ByteArray), .int .i64 0, .slice none 0 0])] := Hold.setB H5 4 rfl b9 c9 rfl
    clear H5
    clear b9 c9
    have b10 : B w9 g6 129 ([.bool (vz[j]), .string (⟨#[]⟩ : ByteArray), .int .i64 0, .slice none 0 0]) := Hold.blk H6 4 rfl
    refine re (sq (sq (rg (r (fa Tryz.underlying129 rfl ti4 rfl rfl) (r (Rn.cast (v' := .bool false) (ldb Tryz.underlying4 rfl rfl b10 rfl) (congrArg Value.bool hzj)) (r (nt rfl) (re (ct rfl (ex rfl (rg (r (ad (a := (j : Int)) (b := 1) ((j : Int) + 1) y25 rfl (by omega)) (r (mv rfl) (re ?_)))))))))))))
    have H7 : Hold w F w9 [rB gm 80 ([.pointer (some ⟨gp, 0, none⟩), .int .i64 s, .int .i64 b, .int .i64 (s * b), .int .i64 (tabs s b), .int .i64 (logs s b), .int .i64 (logs s b + s * b), .int .i64 (s * b - 2 * b), .int .i64 1, tv, iv, .slice none 0 0]), rR kE 115 tv tz, rR kIno 129 iv vz, rM m18 (fun _ => none)] := (show Hold w F w9 ([rB gm 80 ([.pointer (some ⟨gp, 0, none⟩), .int .i64 s, .int .i64 b, .int .i64 (s * b), .int .i64 (tabs s b), .int .i64 (logs s b), .int .i64 (logs s b + s * b), .int .i64 (s * b - 2 * b), .int .i64 1, tv, iv, .slice none 0 0]), rR kE 115 tv tz, rR kIno 129 iv vz, rM m18 (fun _ => none)] ++ [rB g6 129 ([.bool (vz[j]), .string (⟨#[]⟩ : ByteArray), .int .i64 0, .slice none 0 0])]) from Hold.re H6 [0, 1, 2, 3, 4] (by kernel_rfl) (by rfl)).drop
    clear H6
    exact ag (j + 1) ⟨y0, y3, y4, y23, y24, rfl, H7, by omega⟩ (by first | omega | (dsimp only; omega))
  · have b5 : B w504 gm 80 ([.pointer (some ⟨gp, 0, none⟩), .int .i64 s, .int .i64 b, .int .i64 (s * b), .int .i64 (tabs s b), .int .i64 (logs s b), .int .i64 (logs s b + s * b), .int .i64 (s * b - 2 * b), .int .i64 1, tv, iv, .slice none 0 0]) := Hold.blk H4 0 rfl
    obtain ⟨_, R6⟩ : ∃ F, Kd.R kE w504 F tv tz := Hold.row H4 1 rfl
    refine ex rfl (sq (sq (rg (r (mv y0) (r (nck rfl) (r (fa Tryz.underlying80 rfl ti58 rfl rfl) (r (ldb Tryz.underlying58 rfl rfl b5 rfl) (r (ln Tryz.underlying58 rfl (R6)) (r (mv rfl) (re (bl ?_)))))))))))
    refine lp (α := Nat) (fun j2 ρ w' => ρ 0 = .pointer (some ⟨gm, 0, none⟩) ∧ ρ 3 = .map (some m18) ∧ ρ 86 = tv ∧ ρ 87 = .int .i64 (tz.length : Int) ∧ ρ 88 = .int .i64 (j2 : Int) ∧ Hold w F w' [rB gm 80 ([.pointer (some ⟨gp, 0, none⟩), .int .i64 s, .int .i64 b, .int .i64 (s * b), .int .i64 (tabs s b), .int .i64 (logs s b), .int .i64 (logs s b + s * b), .int .i64 (s * b - 2 * b), .int .i64 1, tv, iv, .slice none 0 0]), rR kE 115 tv tz, rR kIno 129 iv vz, rM m18 (fun _ => none)] ∧ j2 ≤ tz.length) (fun j2 => tz.length - j2) 0 ?_ ?_
    · exact ⟨y0, y3, rfl, rfl, rfl, H4, by omega⟩
    clear H4
    rintro j2 ρ w505 ⟨y0, y3, y86, y87, y88, H5, hj2⟩
    refine sq (rg (r (bi y88 y87 rfl) (re (sq ?_))))
    refine cp rfl (fun hlt2 => ?_) (fun hlt2 => ?_)
    · have hj' : j2 < tz.length := by omega
      have hzj := htz _ (List.getElem_mem hj')
      obtain ⟨_, R7⟩ : ∃ F, Kd.R kE w505 F tv tz := Hold.row H5 1 rfl
      refine sk (sq (bl (sq (rg (r (mv y88) ?_)))))
      obtain ⟨c91_8, ad91_8, k91_8, e91_8, p91_8⟩ := Kd.R.place R7 j2 (hj')
      have q91_8 := en_at p91_8
      refine r (ix (j := j2) Tryz.underlying58 ti115 (y86.trans e91_8) y88 (hj')) (r (la [.int .i64 ((tz[j2]).1), .bool ((tz[j2]).2)] Tryz.underlying115 rfl ti115 rfl rfl (fun m u h => (q91_8 m u h))) (ef (xal ti115) ?_))
      rintro _ w9 ⟨g15, e9, rfl, -, b9, c9⟩
      have H6 : Hold w F w9 [rB gm 80 ([.pointer (some ⟨gp, 0, none⟩), .int .i64 s, .int .i64 b, .int .i64 (s * b), .int .i64 (tabs s b), .int .i64 (logs s b), .int .i64 (logs s b + s * b), .int .i64 (s * b - 2 * b), .int .i64 1, tv, iv, .slice none 0 0]), rR kE 115 tv tz, rR kIno 129 iv vz, rM m18 (fun _ => none), rB g15 115 ([.int .i64 0, .bool false])] := Hold.newB H5 e9 b9 c9
      clear H5
      clear e9 b9 c9
      have b10 : B w9 g15 115 ([.int .i64 0, .bool false]) := Hold.blk H6 4 rfl
      refine r (sa rfl) (ef0 (xst (vs := [.int .i64 ((tz[j2]).1), .bool ((tz[j2]).2)]) ti115 rfl rfl rfl b10 rfl (Nat.le_of_ble_eq_true rfl) (one_all rfl)) ?_)
      rintro w11 ⟨-, b11, c11⟩
      have H7 : Hold w F w11 [rB gm 80 ([.pointer (some ⟨gp, 0, none⟩), .int .i64 s, .int .i64 b, .int .i64 (s * b), .int .i64 (tabs s b), .int .i64 (logs s b), .int .i64 (logs s b + s * b), .int .i64 (s * b - 2 * b), .int .i64 1, tv, iv, .slice none 0 0]), rR kE 115 tv tz, rR kIno 129 iv vz, rM m18 (fun _ => none), rB g15 115 ([.int .i64 ((tz[j2]).1), .bool ((tz[j2]).2)])] := Hold.setB H6 4 rfl b11 c11 rfl
      clear H6
      clear b11 c11
      have b12 : MpI w11 m18 (fun _ => none) := Hold.mp H7 3 rfl
      refine re (sq (rg (r (mv y3) (r (mv rfl) (r (ad (a := (j2 : Int)) (b := 1) ((j2 : Int) + 1) rfl rfl (by omega)) (r (lke Tryz.underlying131 Tryz.underlying2 ti135 rfl rfl b12) (r (mv rfl) (r (xt rfl rfl) (r (xt rfl rfl) (ef (xal ti135) ?_))))))))))
      rintro _ w13 ⟨g16, e13, rfl, -, b13, c13⟩
      have H8 : Hold w F w13 [rB gm 80 ([.pointer (some ⟨gp, 0, none⟩), .int .i64 s, .int .i64 b, .int .i64 (s * b), .int .i64 (tabs s b), .int .i64 (logs s b), .int .i64 (logs s b + s * b), .int .i64 (s * b - 2 * b), .int .i64 1, tv, iv, .slice none 0 0]), rR kE 115 tv tz, rR kIno 129 iv vz, rM m18 (fun _ => none), rB g15 115 ([.int .i64 ((tz[j2]).1), .bool ((tz[j2]).2)]), rB g16 135 ([.int .i64 0])] := Hold.newB H7 e13 b13 c13
      clear H7
      clear e13 b13 c13
      have b14 : B w13 g16 135 ([.int .i64 0]) := Hold.blk H8 5 rfl
      refine ef0 (xst (vs := [.int .i64 0]) ti135 rfl rfl rfl b14 rfl (Nat.le_of_ble_eq_true rfl) (one_all rfl)) ?_
      rintro w15 ⟨-, b15, c15⟩
      have H9 : Hold w F w15 [rB gm 80 ([.pointer (some ⟨gp, 0, none⟩), .int .i64 s, .int .i64 b, .int .i64 (s * b), .int .i64 (tabs s b), .int .i64 (logs s b), .int .i64 (logs s b + s * b), .int .i64 (s * b - 2 * b), .int .i64 1, tv, iv, .slice none 0 0]), rR kE 115 tv tz, rR kIno 129 iv vz, rM m18 (fun _ => none), rB g15 115 ([.int .i64 ((tz[j2]).1), .bool ((tz[j2]).2)]), rB g16 135 ([.int .i64 0])] := Hold.setB H8 5 rfl b15 c15 rfl
      clear H8
      clear b15 c15
      refine r (sa rfl) (re (sq ?_))
      refine gen (fun ρ => ρ 0 = .pointer (some ⟨gm, 0, none⟩) ∧ ρ 3 = .map (some m18) ∧ ρ 15 = .pointer (some ⟨g15, 0, none⟩) ∧ ρ 17 = .bool false ∧ ρ 86 = tv ∧ ρ 87 = .int .i64 (tz.length : Int) ∧ ρ 88 = .int .i64 (j2 : Int) ∧ True) ⟨y0, y3, rfl, rfl, y86, y87, y88, trivial⟩ ?_
      rintro ρ ⟨z0, z3, z15, z17, z86, z87, z88, -⟩
      have b16 : B w15 g15 115 ([.int .i64 ((tz[j2]).1), .bool ((tz[j2]).2)]) := Hold.blk H9 4 rfl
      refine rg (r (fa Tryz.underlying115 rfl ti2 rfl z15) (r (Rn.cast (v' := .int .i64 0) (ldb Tryz.underlying2 rfl rfl b16 rfl) (congrArg (Value.int .i64) (by rw [hzj]))) (r (Rn.cast (v' := .bool false) (bi rfl rfl rfl) rfl) (r (Rn.cast (v' := .bool false) (mv rfl) rfl) (gn rfl rfl rfl (gn rfl rfl rfl (gn rfl rfl rfl (r (Rn.cast (v' := .bool false) (pk rfl rfl) rfl) (r (Rn.cast (v' := .bool false) (mv rfl) rfl) (gn rfl rfl rfl (gn rfl rfl rfl (r (Rn.cast (v' := .bool false) (pk rfl rfl) rfl) (re (cf rfl (sk (be ?_))))))))))))))))
      refine gen (fun ρ => ρ 0 = .pointer (some ⟨gm, 0, none⟩) ∧ ρ 3 = .map (some m18) ∧ ρ 86 = tv ∧ ρ 87 = .int .i64 (tz.length : Int) ∧ ρ 88 = .int .i64 (j2 : Int) ∧ True) ⟨z0, z3, z86, z87, z88, trivial⟩ ?_
      rintro ρ ⟨z0, z3, z86, z87, z88, -⟩
      refine rg (r (ad (a := (j2 : Int)) (b := 1) ((j2 : Int) + 1) z88 rfl (by omega)) (r (mv rfl) (re ?_)))
      have H10 : Hold w F w15 [rB gm 80 ([.pointer (some ⟨gp, 0, none⟩), .int .i64 s, .int .i64 b, .int .i64 (s * b), .int .i64 (tabs s b), .int .i64 (logs s b), .int .i64 (logs s b + s * b), .int .i64 (s * b - 2 * b), .int .i64 1, tv, iv, .slice none 0 0]), rR kE 115 tv tz, rR kIno 129 iv vz, rM m18 (fun _ => none)] := (show Hold w F w15 ([rB gm 80 ([.pointer (some ⟨gp, 0, none⟩), .int .i64 s, .int .i64 b, .int .i64 (s * b), .int .i64 (tabs s b), .int .i64 (logs s b), .int .i64 (logs s b + s * b), .int .i64 (s * b - 2 * b), .int .i64 1, tv, iv, .slice none 0 0]), rR kE 115 tv tz, rR kIno 129 iv vz, rM m18 (fun _ => none)] ++ [rB g15 115 ([.int .i64 ((tz[j2]).1), .bool ((tz[j2]).2)]), rB g16 135 ([.int .i64 0])]) from Hold.re H9 [0, 1, 2, 3, 4, 5] (by kernel_rfl) (by rfl)).drop
      clear H9
      exact ag (j2 + 1) ⟨z0, z3, z86, z87, rfl, H10, by omega⟩ (by first | omega | (dsimp only; omega))
    · have b7 : B w505 gm 80 ([.pointer (some ⟨gp, 0, none⟩), .int .i64 s, .int .i64 b, .int .i64 (s * b), .int .i64 (tabs s b), .int .i64 (logs s b), .int .i64 (logs s b + s * b), .int .i64 (s * b - 2 * b), .int .i64 1, tv, iv, .slice none 0 0]) := Hold.blk H5 0 rfl
      refine ex rfl (sq (rg (r (mv y0) (r (nck rfl) (r (fa Tryz.underlying80 rfl ti78 rfl rfl) (r (ldb Tryz.underlying78 rfl rfl b7 rfl) (cl go48 (sortNone) (ac rfl (ac rfl an)) ?_)))))))
      rintro _ ws cs9
      have H6 : Hold w F ws [rB gm 80 ([.pointer (some ⟨gp, 0, none⟩), .int .i64 s, .int .i64 b, .int .i64 (s * b), .int .i64 (tabs s b), .int .i64 (logs s b), .int .i64 (logs s b + s * b), .int .i64 (s * b - 2 * b), .int .i64 1, tv, iv, .slice none 0 0]), rR kE 115 tv tz, rR kIno 129 iv vz, rM m18 (fun _ => none)] := Hold.t H5 cs9
      clear H5
      clear cs9
      refine re (sq (rg (r (sa rfl) (re (rt ?_)))))
      have H7 : Hold w F ws [rB gm 80 ([.pointer (some ⟨gp, 0, none⟩), .int .i64 s, .int .i64 b, .int .i64 (s * b), .int .i64 (tabs s b), .int .i64 (logs s b), .int .i64 (logs s b + s * b), .int .i64 (s * b - 2 * b), .int .i64 1, tv, iv, .slice none 0 0]), rR kE 115 tv tz, rR kIno 129 iv vz] := (show Hold w F ws ([rB gm 80 ([.pointer (some ⟨gp, 0, none⟩), .int .i64 s, .int .i64 b, .int .i64 (s * b), .int .i64 (tabs s b), .int .i64 (logs s b), .int .i64 (logs s b + s * b), .int .i64 (s * b - 2 * b), .int .i64 1, tv, iv, .slice none 0 0]), rR kE 115 tv tz, rR kIno 129 iv vz] ++ [rM m18 (fun _ => none)]) from Hold.re H6 [0, 1, 2, 3] (by kernel_rfl) (by rfl)).drop
      clear H6
      exact fin1 (v := .bool true) Tryz.results27 rfl ⟨rfl, H7⟩
end Go.Proofs.YtanfhikfeabidaaGreatDoor

namespace Go.Proofs.YtanfhikfeabidaaGreatDoor
open Go Go.Eng
set_option maxRecDepth 100000
set_option maxHeartbeats 4000000
set_option linter.unusedVariables false
set_option linter.unusedSimpArgs false
theorem VD_vd {xs : List Int} {ps : List Wr} (V : VD xs ps) : vdisk xs ps = true := vdisk_good ⟨V.mod, V.one, V.top, V.num⟩ V.ok
theorem fmX_VD {s b : Int} (h : geo s b) : VD (fmX s b) [] := by
  have := VD.st (f := fun _ => 64) (fm_vd h)
  rw [show ([((fmA s b : Int), encH 1 s b)] : List Wr).length = 1 from rfl, fm_st h] at this
  exact this
theorem fmX_blks {s b : Int} (h : geo s b) : blks (fmX s b) = logs s b + s * b := by
  have h1 := fmX_len h
  have h2 := fm_rng h
  unfold blks; rw [h1]; omega
theorem fmX_get {s b : Int} (j : Nat) : (fmX s b)[j]? = if j < fmA s b * 64 then some 0 else if j < fmA s b * 64 + 64 then (encH 1 s b)[j - fmA s b * 64]? else if j < fmA s b * 64 + 64 + (fmN s b * 64 - (fmA s b * 64 + 64)) then some 0 else none := by
  have hl := encH_len 1 s b
  unfold fmX
  by_cases h1 : j < fmA s b * 64
  · rw [if_pos h1, List.append_assoc, List.getElem?_append_left (by simpa using h1), List.getElem?_replicate, if_pos h1]
  · rw [if_neg h1]
    by_cases h2 : j < fmA s b * 64 + 64
    · rw [if_pos h2, List.append_assoc, List.getElem?_append_right (by simp; omega), List.length_replicate, List.getElem?_append_left (by omega)]
    · rw [if_neg h2, List.getElem?_append_right (by simp [hl]; omega), List.getElem?_replicate]
      have e : (List.replicate (fmA s b * 64) 0 ++ encH 1 s b).length = fmA s b * 64 + 64 := by simp [hl]
      rw [e]
      by_cases h3 : j < fmA s b * 64 + 64 + (fmN s b * 64 - (fmA s b * 64 + 64))
      · rw [if_pos h3, if_pos (by omega)]
      · rw [if_neg h3, if_neg (by omega)]
theorem fmX_fresh {s b : Int} (h : geo s b) : Fresh s b (readD (fmX s b) []) := by
  have hr := fm_rng h
  have hl := encH_len 1 s b
  have hlg : logs s b = 2 * (1 + tabs s b) := rfl
  have hm2 := geo_mul h
  have key : ∀ c : Int, readD (fmX s b) [] c = blkAt (fmX s b) c := fun c => rfl
  refine ⟨?_, ?_, fun c h1 h2 => ?_⟩
  · rw [key]; apply List.ext_getElem?; intro i
    rw [blkAt_get, fmX_get, zs64, List.getElem?_replicate]
    by_cases hi : i < 64
    · rw [if_pos hi, if_pos hi, if_pos (by simp; omega)]
    · rw [if_neg hi, if_neg hi]
  · rw [key]; apply List.ext_getElem?; intro i
    rw [blkAt_get, fmX_get]
    have e : (1 + tabs s b).toNat = fmA s b := rfl
    by_cases hi : i < 64
    · rw [if_pos hi, e, if_neg (by omega), if_pos (by omega)]; congr 1; omega
    · rw [if_neg hi, List.getElem?_eq_none (by omega)]
  · rw [key]; apply List.ext_getElem?; intro i
    rw [blkAt_get, fmX_get, zs64, List.getElem?_replicate]
    by_cases hi : i < 64
    · rw [if_pos hi, if_pos hi, if_neg (by omega), if_neg (by omega), if_pos (by omega)]
    · rw [if_neg hi, if_neg hi]
theorem usedN_zero {t : List (Int × Bool)} (h : ∀ x, x ∈ t → x = (0, false)) : usedN t = 0 := by
  unfold usedN
  rw [List.filter_eq_nil_iff.2 (fun x hx => by rw [h x hx]; simp)]; rfl
theorem segC_zero {s b : Int} {t : List (Int × Bool)} (hg : geo s b) (h : ∀ x, x ∈ t → x = (0, false)) : segCounts t s b = List.replicate s.toNat 0 := by
  rw [show segCounts t s b = segc (logs s b) b s.toNat t from if_pos hg]
  apply List.ext_getElem (by simp [segc])
  intro i h1 h2
  simp only [segc, List.getElem_map, List.getElem_range, List.getElem_replicate, cnt]
  rw [List.filter_eq_nil_iff.2 (fun x hx => by rw [inSeg_zero hg _ (by rw [h x hx])]; simp)]; rfl
theorem mt_mount {w : World} {F G : List Nat} {dv0 wv0 : Value} {s b : Int} (hx : u8.R w F dv0 (fmX s b)) (hp : kW.R w G wv0 ([] : List Wr)) (hg : geo s b) : Ret Tryz.prog 8 #[.agg #[dv0, wv0], .agg #[.int .i64 s, .int .i64 b]] w (fun r w' => ∃ gm gp tv iv, r = .tuple #[.pointer (some ⟨gm, 0, none⟩), .int .i64 0] ∧ Hold w [] w' [rB gm 80 ([.pointer (some ⟨gp, 0, none⟩), .int .i64 s, .int .i64 b, .int .i64 (s * b), .int .i64 (tabs s b), .int .i64 (logs s b), .int .i64 (logs s b + s * b), .int .i64 (s * b - 2 * b), .int .i64 1, tv, iv, .slice none 0 0]), rPl gp (logs s b + s * b) (readD (fmX s b) []), rR kE 115 tv (List.replicate (s * b).toNat (0, false))]) := by
  have hm2 := geo_mul hg
  have hg2 := hg
  unfold geo at hg2
  have htb : 0 ≤ tabs s b ∧ tabs s b ≤ 33 := by unfold tabs; omega
  have hlg : logs s b = 2 * (1 + tabs s b) := rfl
  have hfl := fmX_len hg
  have hfr9 := fm_rng hg
  have hV := fmX_VD hg
  have hvd := VD_vd hV
  have hbl := fmX_blks hg
  have hfr := fmX_fresh hg
  have hDk : Dk (logs s b + s * b) (fmX s b) [] (readD (fmX s b) []) := ⟨hV, by simp, hbl, fun _ _ => rfl⟩
  refine enter Tryz.func8 rfl Tryz.ntmps8 (by rfl) (by rfl) ?_
  have H0 : Hold w [] w [] := Hold.start w
  refine sq (rg (ef (xbx (t := 33) rfl rfl) ?_))
  rintro _ w1 ⟨g2, e1, rfl, -, b1, c1⟩
  have H1 : Hold w [] w1 [rB g2 33 ([dv0, wv0])] := Hold.newB H0 e1 b1 c1
  clear H0
  clear e1 b1 c1
  refine ef (xbx (t := 25) rfl rfl) ?_
  rintro _ w2 ⟨g3, e2, rfl, -, b2, c2⟩
  have H2 : Hold w [] w2 [rB g2 33 ([dv0, wv0]), rB g3 25 ([.int .i64 s, .int .i64 b])] := Hold.newB H1 e2 b2 c2
  clear H1
  clear e2 b2 c2
  refine r (sa rfl) (r (sa rfl) (re (sq ?_)))
  refine rde mixed ?_
  intro w3 c3
  have H3 : Hold w [] w3 [rB g2 33 ([dv0, wv0]), rB g3 25 ([.int .i64 s, .int .i64 b])] := Hold.t H2 c3
  clear H2
  clear c3
  have H4d0 : Hold w3 [] w3 [] := Hold.start w3
  refine ⟨fun w' => Ch [] w3 w', Ch.refl _ _, ?_⟩
  have b5 : B w3 g3 25 ([.int .i64 s, .int .i64 b]) := Hold.blk H3 1 rfl
  refine edt 0 rfl (by kernel_rfl) (fun w' hS => lab [.int .i64 s, .int .i64 b] Tryz.underlying25 rfl ti25 rfl (hS.b0 b5) rfl rfl) (edt 1 rfl (by kernel_rfl) (fun w' hS => lab [.int .i64 s, .int .i64 b] Tryz.underlying25 rfl ti25 rfl (hS.b0 b5) rfl rfl) (ed1 2 (by kernel_rfl) <| euc rfl go15 (ac rfl an) (impl_Layout_g hg) ?_))
  rintro r wl ⟨rfl, cl⟩
  have H4d : Hold w3 [] wl [] := Hold.t H4d0 cl
  clear H4d0
  clear cl
  refine ⟨.inr (Hold.ch H4d), ?_⟩
  refine edt 3 rfl (by kernel_rfl) (fun w' hS => bd (r := [.pointer none, .int .i64 s, .int .i64 b, .int .i64 (s * b), .int .i64 (tabs s b), .int .i64 (logs s b), .int .i64 (logs s b + s * b), .int .i64 (s * b - 2 * b), .int .i64 0, .slice none 0 0, .slice none 0 0, .slice none 0 0]) ti80 pl80 (pc (v := .agg #[.int .i64 s, .int .i64 b]) (c := [.int .i64 s, .int .i64 b]) rfl rfl (pc (v := .agg #[.int .i64 (s * b), .int .i64 (tabs s b), .int .i64 (logs s b), .int .i64 (logs s b + s * b), .int .i64 (s * b - 2 * b)]) (c := [.int .i64 (s * b), .int .i64 (tabs s b), .int .i64 (logs s b), .int .i64 (logs s b + s * b), .int .i64 (s * b - 2 * b)]) rfl rfl pn)) (by kernel_rfl)) (ed1 4 (by kernel_rfl) <| euf rfl (xbx (t := 80) rfl rfl) ?_)
  rintro _ w7 ⟨g12, e7, rfl, -, b7, c7⟩
  have H5d : Hold w3 [] w7 [rB g12 80 ([.pointer none, .int .i64 s, .int .i64 b, .int .i64 (s * b), .int .i64 (tabs s b), .int .i64 (logs s b), .int .i64 (logs s b + s * b), .int .i64 (s * b - 2 * b), .int .i64 0, .slice none 0 0, .slice none 0 0, .slice none 0 0])] := Hold.newB H4d e7 b7 c7
  clear H4d
  clear e7 b7 c7
  refine ⟨.inr (Hold.ch H5d), ?_⟩
  have H6 : Hold w [] w7 [rB g2 33 ([dv0, wv0]), rB g3 25 ([.int .i64 s, .int .i64 b]), rB g12 80 ([.pointer none, .int .i64 s, .int .i64 b, .int .i64 (s * b), .int .i64 (tabs s b), .int .i64 (logs s b), .int .i64 (logs s b + s * b), .int .i64 (s * b - 2 * b), .int .i64 0, .slice none 0 0, .slice none 0 0, .slice none 0 0])] := Hold.news H3 H5d
  clear H5d H3
  refine ed1 5 (by kernel_rfl) <| eur rfl (sa rfl) (.inl (by kernel_rfl)) ?_
  refine edd (by kernel_rfl) ?_
  have b8 : B w7 g3 25 ([.int .i64 s, .int .i64 b]) := Hold.blk H6 1 rfl
  refine sq (sq (rg (r (lab [.int .i64 s, .int .i64 b] Tryz.underlying25 rfl ti25 rfl b8 rfl rfl) (cl go14 (valid (s := s) (b := b)) (ac rfl an) ?_))))
  rintro r wg ⟨er, cg⟩
  rw [decide_eq_true hg] at er
  subst er
  have H7 : Hold w [] wg [rB g2 33 ([dv0, wv0]), rB g3 25 ([.int .i64 s, .int .i64 b]), rB g12 80 ([.pointer none, .int .i64 s, .int .i64 b, .int .i64 (s * b), .int .i64 (tabs s b), .int .i64 (logs s b), .int .i64 (logs s b + s * b), .int .i64 (s * b - 2 * b), .int .i64 0, .slice none 0 0, .slice none 0 0, .slice none 0 0])] := Hold.t H6 cg
  clear H6
  clear cg
  refine r (nt rfl) (re (cf rfl (sk (sq ?_))))
  refine sq ?_
  refine gen (fun ρ => ρ 2 = .pointer (some ⟨g2, 0, none⟩) ∧ ρ 3 = .pointer (some ⟨g3, 0, none⟩) ∧ ρ 4 = .pointer none ∧ ρ 5 = .int .i64 0 ∧ ρ 6 = .pointer (some ⟨g12, 0, none⟩) ∧ True) ⟨rfl, rfl, rfl, rfl, rfl, trivial⟩ ?_
  rintro ρ ⟨z2, z3, z4, z5, z6, -⟩
  refine rde mixed ?_
  intro w10 c10
  have H8 : Hold w [] w10 [rB g2 33 ([dv0, wv0]), rB g3 25 ([.int .i64 s, .int .i64 b]), rB g12 80 ([.pointer none, .int .i64 s, .int .i64 b, .int .i64 (s * b), .int .i64 (tabs s b), .int .i64 (logs s b), .int .i64 (logs s b + s * b), .int .i64 (s * b - 2 * b), .int .i64 0, .slice none 0 0, .slice none 0 0, .slice none 0 0])] := Hold.t H7 c10
  clear H7
  clear c10
  have H11d0 : Hold w10 [] w10 [] := Hold.start w10
  refine ⟨fun w' => Ch [] w10 w', Ch.refl _ _, ?_⟩
  have b12 : B w10 g2 33 ([dv0, wv0]) := Hold.blk H8 0 rfl
  refine edt 0 rfl (by kernel_rfl) (fun w' hS => lab [dv0, wv0] Tryz.underlying33 rfl ti33 z2 (hS.b0 b12) rfl rfl) (ed1 1 (by kernel_rfl) <| euc rfl go22 (ac rfl an) (impl_ValidDisk ((hx.t (Hold.ch H8)).t (Hold.ch H11d0)) ((hp.t (Hold.ch H8)).t (Hold.ch H11d0)) (by omega) (by simp) (by simp)) ?_)
  rintro r wv ⟨er, cv⟩
  rw [hvd] at er
  subst er
  have H9d : Hold w10 [] wv [] := Hold.t H11d0 cv
  clear H11d0
  clear cv
  refine ⟨.inr (Hold.ch H9d), ?_⟩
  have b14 : B w10 g12 80 ([.pointer none, .int .i64 s, .int .i64 b, .int .i64 (s * b), .int .i64 (tabs s b), .int .i64 (logs s b), .int .i64 (logs s b + s * b), .int .i64 (s * b - 2 * b), .int .i64 0, .slice none 0 0, .slice none 0 0, .slice none 0 0]) := Hold.blk H8 2 rfl
  refine edt 2 rfl (by kernel_rfl) (fun w' hS => nt rfl) (edt 3 rfl (by kernel_rfl) (fun w' hS => Rn.cast (v' := .bool false) (mv rfl) rfl) (edty 4 rfl (by kernel_rfl) rfl rfl rfl (fun w' hS => fa Tryz.underlying33 rfl ti31 rfl z2) (edty 5 rfl (by kernel_rfl) rfl rfl rfl (fun w' hS => ldb Tryz.underlying31 rfl rfl (hS.b0 b12) rfl) (edty 6 rfl (by kernel_rfl) rfl rfl rfl (fun w' hS => ln Tryz.underlying31 rfl (((hp.t (Hold.ch H8)).t hS))) (edty 7 rfl (by kernel_rfl) rfl rfl rfl (fun w' hS => Rn.cast (v' := .bool false) (bi rfl rfl rfl) (congrArg Value.bool (decide_eq_false (by simp)))) (edt 8 rfl (by kernel_rfl) (fun w' hS => Rn.cast (v' := .bool false) (pk rfl rfl) rfl) (edt 9 rfl (by kernel_rfl) (fun w' hS => Rn.cast (v' := .bool false) (mv rfl) rfl) (edty 10 rfl (by kernel_rfl) rfl rfl rfl (fun w' hS => lab [dv0, wv0] Tryz.underlying33 rfl ti33 z2 (hS.b0 b12) rfl rfl) (edty 12 rfl (by kernel_rfl) rfl rfl rfl (fun w' hS => mv z6) (edty 13 rfl (by kernel_rfl) rfl rfl rfl (fun w' hS => nck rfl) (edty 14 rfl (by kernel_rfl) rfl rfl rfl (fun w' hS => fa Tryz.underlying80 rfl ti51 rfl rfl) (edty 15 rfl (by kernel_rfl) rfl rfl rfl (fun w' hS => fa Tryz.underlying51 rfl ti2 rfl rfl) (edty 16 rfl (by kernel_rfl) rfl rfl rfl (fun w' hS => ldb Tryz.underlying2 rfl rfl (hS.b0 b14) rfl) (ed1 11 (by kernel_rfl) <| eucg rfl rfl rfl rfl go23 (ac rfl an) (Disk_blocks ((hx.t (Hold.ch H8)).t (Hold.ch H9d)) (by omega)) ?_))))))))))))))
  rintro r wb ⟨er, cb⟩
  rw [hbl] at er
  subst er
  have H10d : Hold w10 [] wb [] := Hold.t H9d cb
  clear H9d
  clear cb
  refine ⟨.inr (Hold.ch H10d), ?_⟩
  refine edty 17 rfl (by kernel_rfl) rfl rfl rfl (fun w' hS => Rn.cast (v' := .bool false) (bi rfl rfl rfl) (congrArg Value.bool (by simp))) ?_
  have H11 : Hold w [] wb [rB g2 33 ([dv0, wv0]), rB g3 25 ([.int .i64 s, .int .i64 b]), rB g12 80 ([.pointer none, .int .i64 s, .int .i64 b, .int .i64 (s * b), .int .i64 (tabs s b), .int .i64 (logs s b), .int .i64 (logs s b + s * b), .int .i64 (s * b - 2 * b), .int .i64 0, .slice none 0 0, .slice none 0 0, .slice none 0 0])] := Hold.news H8 H10d
  clear H10d H8
  refine ed1 18 (by kernel_rfl) <| eur rfl (Rn.cast (v' := .bool false) (pk rfl rfl) rfl) (.inl (by kernel_rfl)) ?_
  refine edd (by kernel_rfl) ?_
  refine cf rfl (sk (sq ?_))
  refine gen (fun ρ => ρ 2 = .pointer (some ⟨g2, 0, none⟩) ∧ ρ 3 = .pointer (some ⟨g3, 0, none⟩) ∧ ρ 4 = .pointer none ∧ ρ 5 = .int .i64 0 ∧ ρ 6 = .pointer (some ⟨g12, 0, none⟩) ∧ True) ⟨z2, z3, z4, z5, z6, trivial⟩ ?_
  rintro ρ ⟨z2, z3, z4, z5, z6, -⟩
  have b16 : B wb g2 33 ([dv0, wv0]) := Hold.blk H11 0 rfl
  refine rg (r (mv z6) (r (lab [dv0, wv0] Tryz.underlying33 rfl ti33 z2 b16 rfl rfl) (cl go16 (spin (hx.t (Hold.ch H11)) (hp.t (Hold.ch H11)) (by omega) (by simp) (by simp)) (ac rfl an) ?_)))
  rintro r wsp ⟨gp, dv1, wv1, mg1, rfl, Hsp⟩
  have H12 : Hold w [] wsp [rB g2 33 ([dv0, wv0]), rB g3 25 ([.int .i64 s, .int .i64 b]), rB g12 80 ([.pointer none, .int .i64 s, .int .i64 b, .int .i64 (s * b), .int .i64 (tabs s b), .int .i64 (logs s b), .int .i64 (logs s b + s * b), .int .i64 (s * b - 2 * b), .int .i64 0, .slice none 0 0, .slice none 0 0, .slice none 0 0]), rB gp 98 ([dv1, wv1, .map (some mg1)]), rR u8 5 dv1 (fmX s b), rR kW 100 wv1 ([] : List Wr), rM mg1 (yng ([] : List Wr))] := Hold.news H11 Hsp
  clear H11
  clear Hsp
  have b18 : B wsp g12 80 ([.pointer none, .int .i64 s, .int .i64 b, .int .i64 (s * b), .int .i64 (tabs s b), .int .i64 (logs s b), .int .i64 (logs s b + s * b), .int .i64 (s * b - 2 * b), .int .i64 0, .slice none 0 0, .slice none 0 0, .slice none 0 0]) := Hold.blk H12 2 rfl
  refine r (nck rfl) (r (fa Tryz.underlying80 rfl ti49 rfl rfl) (ef0 (xst (vs := [.pointer (some ⟨gp, 0, none⟩)]) ti49 rfl rfl (cel1 rfl) b18 rfl (Nat.le_of_ble_eq_true rfl) (one_all rfl)) ?_))
  rintro w19 ⟨-, b19, c19⟩
  have H13 : Hold w [] w19 [rB g2 33 ([dv0, wv0]), rB g3 25 ([.int .i64 s, .int .i64 b]), rB g12 80 ([.pointer (some ⟨gp, 0, none⟩), .int .i64 s, .int .i64 b, .int .i64 (s * b), .int .i64 (tabs s b), .int .i64 (logs s b), .int .i64 (logs s b + s * b), .int .i64 (s * b - 2 * b), .int .i64 0, .slice none 0 0, .slice none 0 0, .slice none 0 0]), rB gp 98 ([dv1, wv1, .map (some mg1)]), rR u8 5 dv1 (fmX s b), rR kW 100 wv1 ([] : List Wr), rM mg1 (yng ([] : List Wr))] := Hold.setB H12 2 rfl b19 c19 rfl
  clear H12
  clear b19 c19
  refine re ?_
  have H14 : Hold w [] w19 [rB gp 98 ([dv1, wv1, .map (some mg1)]), rR u8 5 dv1 (fmX s b), rR kW 100 wv1 ([] : List Wr), rM mg1 (yng ([] : List Wr)), rB g2 33 ([dv0, wv0]), rB g3 25 ([.int .i64 s, .int .i64 b]), rB g12 80 ([.pointer (some ⟨gp, 0, none⟩), .int .i64 s, .int .i64 b, .int .i64 (s * b), .int .i64 (tabs s b), .int .i64 (logs s b), .int .i64 (logs s b + s * b), .int .i64 (s * b - 2 * b), .int .i64 0, .slice none 0 0, .slice none 0 0, .slice none 0 0])] := Hold.re H13 [3, 4, 5, 6, 0, 1, 2] (by kernel_rfl) (by rfl)
  clear H13
  have H15 : Hold w [] w19 [rPl gp (logs s b + s * b) (readD (fmX s b) []), rB g2 33 ([dv0, wv0]), rB g3 25 ([.int .i64 s, .int .i64 b]), rB g12 80 ([.pointer (some ⟨gp, 0, none⟩), .int .i64 s, .int .i64 b, .int .i64 (s * b), .int .i64 (tabs s b), .int .i64 (logs s b), .int .i64 (logs s b + s * b), .int .i64 (s * b - 2 * b), .int .i64 0, .slice none 0 0, .slice none 0 0, .slice none 0 0])] := Hold.plI hDk H14
  clear H14
  have H16 : Hold w [] w19 [rB g12 80 ([.pointer (some ⟨gp, 0, none⟩), .int .i64 s, .int .i64 b, .int .i64 (s * b), .int .i64 (tabs s b), .int .i64 (logs s b), .int .i64 (logs s b + s * b), .int .i64 (s * b - 2 * b), .int .i64 0, .slice none 0 0, .slice none 0 0, .slice none 0 0]), rPl gp (logs s b + s * b) (readD (fmX s b) []), rB g2 33 ([dv0, wv0]), rB g3 25 ([.int .i64 s, .int .i64 b])] := Hold.re H15 [3, 0, 1, 2] (by kernel_rfl) (by rfl)
  clear H15
  obtain ⟨F20, hF20, n20, s20, K20⟩ := Hold.front (Γ := [rB g12 80 ([.pointer (some ⟨gp, 0, none⟩), .int .i64 s, .int .i64 b, .int .i64 (s * b), .int .i64 (tabs s b), .int .i64 (logs s b), .int .i64 (logs s b + s * b), .int .i64 (s * b - 2 * b), .int .i64 0, .slice none 0 0, .slice none 0 0, .slice none 0 0]), rPl gp (logs s b + s * b) (readD (fmX s b) [])]) (Δ := [rB g2 33 ([dv0, wv0]), rB g3 25 ([.int .i64 s, .int .i64 b])]) H16
  refine sq (rg (r (mv z6) (cl go24 (mt_root hF20 n20 hg hfr) (ac rfl an) ?_)))
  rintro r wr ⟨rfl, Hr⟩
  have H17 : Hold w [] wr [rB g12 80 ([.pointer (some ⟨gp, 0, none⟩), .int .i64 s, .int .i64 b, .int .i64 (s * b), .int .i64 (tabs s b), .int .i64 (logs s b), .int .i64 (logs s b + s * b), .int .i64 (s * b - 2 * b), .int .i64 1, .slice none 0 0, .slice none 0 0, .slice none 0 0]), rPl gp (logs s b + s * b) (readD (fmX s b) []), rB g2 33 ([dv0, wv0]), rB g3 25 ([.int .i64 s, .int .i64 b])] := Hold.call K20 Hr
  clear H16
  clear K20 hF20 n20 s20
  clear Hr
  refine r (sa rfl) (re (sq (bl (sq (rg (r (mv rfl) (r (Rn.cast (v' := .bool false) (bi rfl rfl rfl) (congrArg Value.bool (by simp))) (r (sa rfl) (re (cf rfl (sq ?_)))))))))))
  refine gen (fun ρ => ρ 3 = .pointer (some ⟨g3, 0, none⟩) ∧ ρ 4 = .pointer none ∧ ρ 5 = .int .i64 0 ∧ ρ 6 = .pointer (some ⟨g12, 0, none⟩) ∧ ρ 7 = .int .i64 1 ∧ True) ⟨z3, z4, z5, z6, rfl, trivial⟩ ?_
  rintro ρ ⟨z3, z4, z5, z6, z7, -⟩
  have b21 : B wr g12 80 ([.pointer (some ⟨gp, 0, none⟩), .int .i64 s, .int .i64 b, .int .i64 (s * b), .int .i64 (tabs s b), .int .i64 (logs s b), .int .i64 (logs s b + s * b), .int .i64 (s * b - 2 * b), .int .i64 1, .slice none 0 0, .slice none 0 0, .slice none 0 0]) := Hold.blk H17 0 rfl
  obtain ⟨F22, hF22, n22, s22, K22⟩ := Hold.front (Γ := [rB g12 80 ([.pointer (some ⟨gp, 0, none⟩), .int .i64 s, .int .i64 b, .int .i64 (s * b), .int .i64 (tabs s b), .int .i64 (logs s b), .int .i64 (logs s b + s * b), .int .i64 (s * b - 2 * b), .int .i64 1, .slice none 0 0, .slice none 0 0, .slice none 0 0]), rPl gp (logs s b + s * b) (readD (fmX s b) [])]) (Δ := [rB g2 33 ([dv0, wv0]), rB g3 25 ([.int .i64 s, .int .i64 b])]) H17
  refine rg (r (mv z6) (r (nck rfl) (r (fa Tryz.underlying80 rfl ti2 rfl rfl) (r (ldb Tryz.underlying2 rfl rfl b21 rfl) (r (Rn.cast (v' := .bool false) (bi rfl rfl rfl) (congrArg Value.bool (by simp))) (r (sa rfl) (re (cf rfl (sq (rg (r (mv z6) (r (mv z7) (cl go25 (mt_table hF22 n22 hg hfr) (ac rfl (ac rfl an)) ?_)))))))))))))
  rintro r wt ⟨tv, rfl, Ht⟩
  have H18 : Hold w [] wt [rB g12 80 ([.pointer (some ⟨gp, 0, none⟩), .int .i64 s, .int .i64 b, .int .i64 (s * b), .int .i64 (tabs s b), .int .i64 (logs s b), .int .i64 (logs s b + s * b), .int .i64 (s * b - 2 * b), .int .i64 1, tv, .slice none 0 0, .slice none 0 0]), rPl gp (logs s b + s * b) (readD (fmX s b) []), rR kE 115 tv (List.replicate (s * b).toNat (0, false)), rB g2 33 ([dv0, wv0]), rB g3 25 ([.int .i64 s, .int .i64 b])] := Hold.call K22 Ht
  clear H17
  clear K22 hF22 n22 s22
  clear Ht
  refine r (nt rfl) (r (sa rfl) (re (cf rfl ?_)))
  have hsb : 4 * b ≤ s * b := Int.mul_le_mul_of_nonneg_right hg2.1 (by omega)
  obtain ⟨tz, htz0⟩ : ∃ t, t = (List.replicate (s * b).toNat (0, false) : List (Int × Bool)) := ⟨_, rfl⟩
  have htl : (tz.length : Int) = s * b := by rw [htz0, List.length_replicate]; omega
  have htz : ∀ x, x ∈ tz → x = (0, false) := fun x hx => by rw [htz0] at hx; exact List.eq_of_mem_replicate hx
  have hu0 := usedN_zero htz
  have hs0 := segC_zero hg htz
  have hsl : 0 < (segCounts tz s b).length := by rw [hs0, List.length_replicate]; omega
  have hsz : (segCounts tz s b)[0] = 0 := by simp [hs0]
  have hsl2 := segCounts_len tz s b
  have H19 : Hold w [] wt [rB g12 80 ([.pointer (some ⟨gp, 0, none⟩), .int .i64 s, .int .i64 b, .int .i64 (s * b), .int .i64 (tabs s b), .int .i64 (logs s b), .int .i64 (logs s b + s * b), .int .i64 (s * b - 2 * b), .int .i64 1, tv, .slice none 0 0, .slice none 0 0]), rPl gp (logs s b + s * b) (readD (fmX s b) []), rR kE 115 tv tz, rB g2 33 ([dv0, wv0]), rB g3 25 ([.int .i64 s, .int .i64 b])] := (by rw [← htz0] at H18; exact H18)
  clear H18
  refine sq ?_
  refine gen (fun ρ => ρ 3 = .pointer (some ⟨g3, 0, none⟩) ∧ ρ 4 = .pointer none ∧ ρ 5 = .int .i64 0 ∧ ρ 6 = .pointer (some ⟨g12, 0, none⟩) ∧ True) ⟨z3, z4, z5, z6, trivial⟩ ?_
  rintro ρ ⟨z3, z4, z5, z6, -⟩
  have H20 : Hold w [] wt [rB g12 80 ([.pointer (some ⟨gp, 0, none⟩), .int .i64 s, .int .i64 b, .int .i64 (s * b), .int .i64 (tabs s b), .int .i64 (logs s b), .int .i64 (logs s b + s * b), .int .i64 (s * b - 2 * b), .int .i64 1, tv, .slice none 0 0, .slice none 0 0]), rR kE 115 tv tz, rPl gp (logs s b + s * b) (readD (fmX s b) []), rB g2 33 ([dv0, wv0]), rB g3 25 ([.int .i64 s, .int .i64 b])] := Hold.re H19 [0, 2, 1, 3, 4] (by kernel_rfl) (by rfl)
  clear H19
  obtain ⟨F23, hF23, n23, s23, K23⟩ := Hold.front (Γ := [rB g12 80 ([.pointer (some ⟨gp, 0, none⟩), .int .i64 s, .int .i64 b, .int .i64 (s * b), .int .i64 (tabs s b), .int .i64 (logs s b), .int .i64 (logs s b + s * b), .int .i64 (s * b - 2 * b), .int .i64 1, tv, .slice none 0 0, .slice none 0 0]), rR kE 115 tv tz]) (Δ := [rPl gp (logs s b + s * b) (readD (fmX s b) []), rB g2 33 ([dv0, wv0]), rB g3 25 ([.int .i64 s, .int .i64 b])]) H20
  refine rg (r (mv z6) (cl go26 (mt_inodes hF23 n23 (by omega) htz) (ac rfl an) ?_))
  rintro r wi ⟨iv, rfl, Hi⟩
  have H21 : Hold w [] wi [rB g12 80 ([.pointer (some ⟨gp, 0, none⟩), .int .i64 s, .int .i64 b, .int .i64 (s * b), .int .i64 (tabs s b), .int .i64 (logs s b), .int .i64 (logs s b + s * b), .int .i64 (s * b - 2 * b), .int .i64 1, tv, iv, .slice none 0 0]), rR kE 115 tv tz, rR kIno 129 iv (List.replicate tz.length false), rPl gp (logs s b + s * b) (readD (fmX s b) []), rB g2 33 ([dv0, wv0]), rB g3 25 ([.int .i64 s, .int .i64 b])] := Hold.call K23 Hi
  clear H20
  clear K23 hF23 n23 s23
  clear Hi
  obtain ⟨F24, hF24, n24, s24, K24⟩ := Hold.front (Γ := [rB g12 80 ([.pointer (some ⟨gp, 0, none⟩), .int .i64 s, .int .i64 b, .int .i64 (s * b), .int .i64 (tabs s b), .int .i64 (logs s b), .int .i64 (logs s b + s * b), .int .i64 (s * b - 2 * b), .int .i64 1, tv, iv, .slice none 0 0]), rR kE 115 tv tz, rR kIno 129 iv (List.replicate tz.length false)]) (Δ := [rPl gp (logs s b + s * b) (readD (fmX s b) []), rB g2 33 ([dv0, wv0]), rB g3 25 ([.int .i64 s, .int .i64 b])]) H21
  refine r (nt rfl) (r (sa rfl) (re (cf rfl (sq (rg (r (mv z6) (cl go27 (mt_files hF24 n24 (by omega) htz (by rw [List.length_replicate]; omega) (fun x hx => List.eq_of_mem_replicate hx)) (ac rfl an) ?_)))))))
  rintro r wf ⟨rfl, Hf⟩
  have H22 : Hold w [] wf [rB g12 80 ([.pointer (some ⟨gp, 0, none⟩), .int .i64 s, .int .i64 b, .int .i64 (s * b), .int .i64 (tabs s b), .int .i64 (logs s b), .int .i64 (logs s b + s * b), .int .i64 (s * b - 2 * b), .int .i64 1, tv, iv, .slice none 0 0]), rR kE 115 tv tz, rR kIno 129 iv (List.replicate tz.length false), rPl gp (logs s b + s * b) (readD (fmX s b) []), rB g2 33 ([dv0, wv0]), rB g3 25 ([.int .i64 s, .int .i64 b])] := Hold.call K24 Hf
  clear H21
  clear K24 hF24 n24 s24
  clear Hf
  refine r (nt rfl) (r (sa rfl) (re (cf rfl (sq ?_))))
  refine rde mixed ?_
  intro w25 c25
  have H23 : Hold w [] w25 [rB g12 80 ([.pointer (some ⟨gp, 0, none⟩), .int .i64 s, .int .i64 b, .int .i64 (s * b), .int .i64 (tabs s b), .int .i64 (logs s b), .int .i64 (logs s b + s * b), .int .i64 (s * b - 2 * b), .int .i64 1, tv, iv, .slice none 0 0]), rR kE 115 tv tz, rR kIno 129 iv (List.replicate tz.length false), rPl gp (logs s b + s * b) (readD (fmX s b) []), rB g2 33 ([dv0, wv0]), rB g3 25 ([.int .i64 s, .int .i64 b])] := Hold.t H22 c25
  clear H22
  clear c25
  have H26d0 : Hold w25 [] w25 [] := Hold.start w25
  refine ⟨fun w' => Ch [] w25 w', Ch.refl _ _, ?_⟩
  have b27 : B w25 g12 80 ([.pointer (some ⟨gp, 0, none⟩), .int .i64 s, .int .i64 b, .int .i64 (s * b), .int .i64 (tabs s b), .int .i64 (logs s b), .int .i64 (logs s b + s * b), .int .i64 (s * b - 2 * b), .int .i64 1, tv, iv, .slice none 0 0]) := Hold.blk H23 0 rfl
  obtain ⟨_, R29⟩ : ∃ F, Kd.R kE w25 F tv tz := Hold.row H23 1 rfl
  refine edt 0 rfl (by kernel_rfl) (fun w' hS => mv z6) (edt 1 rfl (by kernel_rfl) (fun w' hS => nck rfl) (edt 2 rfl (by kernel_rfl) (fun w' hS => fa Tryz.underlying80 rfl ti58 rfl rfl) (edt 3 rfl (by kernel_rfl) (fun w' hS => ldb Tryz.underlying58 rfl rfl (hS.b0 b27) rfl) (edt 5 rfl (by kernel_rfl) (fun w' hS => mv z6) (edt 6 rfl (by kernel_rfl) (fun w' hS => nck rfl) (edt 7 rfl (by kernel_rfl) (fun w' hS => fa Tryz.underlying80 rfl ti51 rfl rfl) (edt 8 rfl (by kernel_rfl) (fun w' hS => fa Tryz.underlying51 rfl ti2 rfl rfl) (edt 9 rfl (by kernel_rfl) (fun w' hS => ldb Tryz.underlying2 rfl rfl (hS.b0 b27) rfl) (ed1 4 (by kernel_rfl) <| euc rfl go28 (ac rfl an) (impl_used (R29.t (Hold.ch H26d0)) (by omega)) ?_)))))))))
  rintro r wu ⟨er, cu⟩
  rw [hu0] at er
  subst er
  have H24d : Hold w25 [] wu [] := Hold.t H26d0 cu
  clear H26d0
  clear cu
  refine ⟨.inr (Hold.ch H24d), ?_⟩
  have b30 : B w25 g3 25 ([.int .i64 s, .int .i64 b]) := Hold.blk H23 5 rfl
  refine edt 10 rfl (by kernel_rfl) (fun w' hS => Rn.cast (v' := .bool false) (bi rfl rfl rfl) (congrArg Value.bool (decide_eq_false (by omega)))) (edt 11 rfl (by kernel_rfl) (fun w' hS => Rn.cast (v' := .bool false) (mv rfl) rfl) (edty 12 rfl (by kernel_rfl) rfl rfl rfl (fun w' hS => mv z6) (edty 13 rfl (by kernel_rfl) rfl rfl rfl (fun w' hS => nck rfl) (edty 14 rfl (by kernel_rfl) rfl rfl rfl (fun w' hS => fa Tryz.underlying80 rfl ti58 rfl rfl) (edty 15 rfl (by kernel_rfl) rfl rfl rfl (fun w' hS => ldb Tryz.underlying58 rfl rfl (hS.b0 b27) rfl) (edty 16 rfl (by kernel_rfl) rfl rfl rfl (fun w' hS => lab [.int .i64 s, .int .i64 b] Tryz.underlying25 rfl ti25 z3 (hS.b0 b30) rfl rfl) (ed1 17 (by kernel_rfl) <| eucg rfl rfl rfl rfl go30 (ac rfl (ac rfl an)) (Ret.hold (d := i64) (impl_SegmentCounts (R29.t (Hold.ch H24d)) (by omega))) ?_)))))))
  rintro r3 wc Hc
  have H25d : Hold w25 [] wc [rR i64 2 r3 (segCounts tz s b)] := Hold.news H24d Hc
  clear H24d
  clear Hc
  refine ⟨.inr (Hold.ch H25d), ?_⟩
  obtain ⟨_, R33⟩ : ∃ F, Kd.R i64 wc F r3 (segCounts tz s b) := Hold.row H25d 0 rfl
  refine ed1 18 (by kernel_rfl) <| eucg rfl rfl rfl rfl go29 (ac rfl (ac rfl an)) (slices_Contains0 R33 (by omega) hsl hsz) ?_
  rintro r wk ⟨rfl, ck9⟩
  have H26d : Hold w25 [] wk [rR i64 2 r3 (segCounts tz s b)] := Hold.t H25d ck9
  clear H25d
  clear ck9
  refine ⟨.inr (Hold.ch H26d), ?_⟩
  refine edty 19 rfl (by kernel_rfl) rfl rfl rfl (fun w' hS => nt rfl) (edt 20 rfl (by kernel_rfl) (fun w' hS => Rn.cast (v' := .bool false) (pk rfl rfl) rfl) ?_)
  have H27 : Hold w [] wk [rB g12 80 ([.pointer (some ⟨gp, 0, none⟩), .int .i64 s, .int .i64 b, .int .i64 (s * b), .int .i64 (tabs s b), .int .i64 (logs s b), .int .i64 (logs s b + s * b), .int .i64 (s * b - 2 * b), .int .i64 1, tv, iv, .slice none 0 0]), rR kE 115 tv tz, rR kIno 129 iv (List.replicate tz.length false), rPl gp (logs s b + s * b) (readD (fmX s b) []), rB g2 33 ([dv0, wv0]), rB g3 25 ([.int .i64 s, .int .i64 b]), rR i64 2 r3 (segCounts tz s b)] := Hold.news H23 H26d
  clear H26d H23
  refine ed1 21 (by kernel_rfl) <| eur rfl (sa rfl) (.inl (by kernel_rfl)) ?_
  refine edd (by kernel_rfl) ?_
  refine cf rfl (sk (be (sq ?_)))
  refine gen (fun ρ => ρ 4 = .pointer none ∧ ρ 5 = .int .i64 0 ∧ ρ 6 = .pointer (some ⟨g12, 0, none⟩) ∧ True) ⟨z4, z5, z6, trivial⟩ ?_
  rintro ρ ⟨z4, z5, z6, -⟩
  refine rg (r (mv z6) (r (sa rfl) (r (sa rfl) (re (rt ?_)))))
  have H28 : Hold w [] wk [rB g12 80 ([.pointer (some ⟨gp, 0, none⟩), .int .i64 s, .int .i64 b, .int .i64 (s * b), .int .i64 (tabs s b), .int .i64 (logs s b), .int .i64 (logs s b + s * b), .int .i64 (s * b - 2 * b), .int .i64 1, tv, iv, .slice none 0 0]), rPl gp (logs s b + s * b) (readD (fmX s b) []), rR kE 115 tv tz] := (show Hold w [] wk ([rB g12 80 ([.pointer (some ⟨gp, 0, none⟩), .int .i64 s, .int .i64 b, .int .i64 (s * b), .int .i64 (tabs s b), .int .i64 (logs s b), .int .i64 (logs s b + s * b), .int .i64 (s * b - 2 * b), .int .i64 1, tv, iv, .slice none 0 0]), rPl gp (logs s b + s * b) (readD (fmX s b) []), rR kE 115 tv tz] ++ [rR kIno 129 iv (List.replicate tz.length false), rB g2 33 ([dv0, wv0]), rB g3 25 ([.int .i64 s, .int .i64 b]), rR i64 2 r3 (segCounts tz s b)]) from Hold.re H27 [0, 3, 1, 2, 4, 5, 6] (by kernel_rfl) (by rfl)).drop
  clear H27
  exact fin2 (v := .pointer (some ⟨g12, 0, none⟩)) (v' := .int .i64 0) Tryz.results8 rfl rfl ⟨_, _, _, _, rfl, (by rw [← htz0]; exact H28)⟩
theorem mt_engine {w : World} {gm gp : Nat} {tv iv : Value} {s b : Int} (hB : B w gm 80 [.pointer (some ⟨gp, 0, none⟩), .int .i64 s, .int .i64 b, .int .i64 (s * b), .int .i64 (tabs s b), .int .i64 (logs s b), .int .i64 (logs s b + s * b), .int .i64 (s * b - 2 * b), .int .i64 1, tv, iv, .slice none 0 0]) (ho : tv.oneCell' = true) : Ret Tryz.prog 9 #[.pointer (some ⟨gm, 0, none⟩)] w (fun r w' => ∃ ge gw gd, r = .pointer (some ⟨ge, 0, none⟩) ∧ Hold w [] w' [rB ge 60 ([.pointer (some ⟨gp, 0, none⟩), .int .i64 s, .int .i64 b, .int .i64 (s * b), .int .i64 (tabs s b), .int .i64 (logs s b), .int .i64 (logs s b + s * b), .int .i64 (s * b - 2 * b), .map (some gw), .map (some gd), tv, .int .i64 1, .int .i64 (-1), .int .i64 0, .int .i64 0, .func (.func 31) #[] #[]]), rMW gw [], rMW gd []]) := by
  refine enter Tryz.func9 rfl Tryz.ntmps9 (by rfl) (by rfl) ?_
  have H0 : Hold w [] w [] := Hold.start w
  refine sq (rg (r (sa rfl) (re (sq ?_))))
  refine rde mixed ?_
  intro w1 c1
  have H1 : Hold w [] w1 [] := Hold.t H0 c1
  clear H0
  clear c1
  have H2d0 : Hold w1 [] w1 [] := Hold.start w1
  refine ⟨fun w' => Ch [] w1 w', Ch.refl _ _, ?_⟩
  refine edt 0 rfl (by kernel_rfl) (fun w' hS => mv rfl) (edt 1 rfl (by kernel_rfl) (fun w' hS => nck rfl) (edt 2 rfl (by kernel_rfl) (fun w' hS => fa Tryz.underlying80 rfl ti49 rfl rfl) (edt 3 rfl (by kernel_rfl) (fun w' hS => ldb Tryz.underlying49 rfl rfl (hS.b0 ((Hold.ch H1).b0 hB)) rfl) (edt 4 rfl (by kernel_rfl) (fun w' hS => mv rfl) (edt 5 rfl (by kernel_rfl) (fun w' hS => nck rfl) (edt 6 rfl (by kernel_rfl) (fun w' hS => fa Tryz.underlying80 rfl ti25 rfl rfl) (edt 7 rfl (by kernel_rfl) (fun w' hS => lab [.int .i64 s, .int .i64 b] Tryz.underlying25 rfl ti25 rfl (hS.b0 ((Hold.ch H1).b0 hB)) rfl rfl) (edt 8 rfl (by kernel_rfl) (fun w' hS => mv rfl) (edt 9 rfl (by kernel_rfl) (fun w' hS => nck rfl) (edt 10 rfl (by kernel_rfl) (fun w' hS => fa Tryz.underlying80 rfl ti51 rfl rfl) (edt 11 rfl (by kernel_rfl) (fun w' hS => lab [.int .i64 (s * b), .int .i64 (tabs s b), .int .i64 (logs s b), .int .i64 (logs s b + s * b), .int .i64 (s * b - 2 * b)] Tryz.underlying51 rfl ti51 rfl (hS.b0 ((Hold.ch H1).b0 hB)) rfl rfl) (edt 12 rfl (by kernel_rfl) (fun w' hS => mv rfl) (edt 13 rfl (by kernel_rfl) (fun w' hS => nck rfl) (edt 14 rfl (by kernel_rfl) (fun w' hS => fa Tryz.underlying80 rfl ti58 rfl rfl) (edt 15 rfl (by kernel_rfl) (fun w' hS => ldb Tryz.underlying58 rfl rfl (hS.b0 ((Hold.ch H1).b0 hB)) rfl) (edt 16 rfl (by kernel_rfl) (fun w' hS => mv rfl) (edt 17 rfl (by kernel_rfl) (fun w' hS => nck rfl) (edt 18 rfl (by kernel_rfl) (fun w' hS => fa Tryz.underlying80 rfl ti2 rfl rfl) (edt 19 rfl (by kernel_rfl) (fun w' hS => ldb Tryz.underlying2 rfl rfl (hS.b0 ((Hold.ch H1).b0 hB)) rfl) (edt 20 rfl (by kernel_rfl) (fun w' hS => bd (r := [.pointer (some ⟨gp, 0, none⟩), .int .i64 s, .int .i64 b, .int .i64 (s * b), .int .i64 (tabs s b), .int .i64 (logs s b), .int .i64 (logs s b + s * b), .int .i64 (s * b - 2 * b), .map none, .map none, tv, .int .i64 1, .int .i64 (-1), .int .i64 0, .int .i64 0, .func (.func 31) #[] #[]]) ti60 pl60 (pc (v := .pointer (some ⟨gp, 0, none⟩)) (c := [.pointer (some ⟨gp, 0, none⟩)]) rfl (cel1 rfl) (pc (v := .agg #[.int .i64 s, .int .i64 b]) (c := [.int .i64 s, .int .i64 b]) rfl rfl (pc (v := .agg #[.int .i64 (s * b), .int .i64 (tabs s b), .int .i64 (logs s b), .int .i64 (logs s b + s * b), .int .i64 (s * b - 2 * b)]) (c := [.int .i64 (s * b), .int .i64 (tabs s b), .int .i64 (logs s b), .int .i64 (logs s b + s * b), .int .i64 (s * b - 2 * b)]) rfl rfl (pc (v := tv) (c := [tv]) rfl (cel1 ho) (pc (v := .int .i64 1) (c := [.int .i64 1]) rfl (cel1 rfl) (pc (v := .int .i64 (-1)) (c := [.int .i64 (-1)]) rfl (cel1 rfl) (pc (v := .func (.func 31) #[] #[]) (c := [.func (.func 31) #[] #[]]) rfl (cel1 rfl) pn))))))) (by kernel_rfl)) (ed1 21 (by kernel_rfl) <| euf rfl (xbx (t := 60) rfl rfl) ?_)))))))))))))))))))))
  rintro _ w3 ⟨g27, e3, rfl, -, b3, c3⟩
  have H2d : Hold w1 [] w3 [rB g27 60 ([.pointer (some ⟨gp, 0, none⟩), .int .i64 s, .int .i64 b, .int .i64 (s * b), .int .i64 (tabs s b), .int .i64 (logs s b), .int .i64 (logs s b + s * b), .int .i64 (s * b - 2 * b), .map none, .map none, tv, .int .i64 1, .int .i64 (-1), .int .i64 0, .int .i64 0, .func (.func 31) #[] #[]])] := Hold.newB H2d0 e3 b3 c3
  clear H2d0
  clear e3 b3 c3
  refine ⟨.inr (Hold.ch H2d), ?_⟩
  have H3 : Hold w [] w3 [rB g27 60 ([.pointer (some ⟨gp, 0, none⟩), .int .i64 s, .int .i64 b, .int .i64 (s * b), .int .i64 (tabs s b), .int .i64 (logs s b), .int .i64 (logs s b + s * b), .int .i64 (s * b - 2 * b), .map none, .map none, tv, .int .i64 1, .int .i64 (-1), .int .i64 0, .int .i64 0, .func (.func 31) #[] #[]])] := Hold.news H1 H2d
  clear H2d H1
  refine ed1 22 (by kernel_rfl) <| eur rfl (sa rfl) (.inl (by kernel_rfl)) ?_
  refine edd (by kernel_rfl) ?_
  refine sq ?_
  refine gen (fun ρ => ρ 0 = .pointer (some ⟨gm, 0, none⟩) ∧ ρ 2 = .pointer none ∧ ρ 3 = .pointer (some ⟨g27, 0, none⟩) ∧ True) ⟨rfl, rfl, rfl, trivial⟩ ?_
  rintro ρ ⟨z0, z2, z3, -⟩
  refine rg (r (mv z3) (ef (xmmw) ?_))
  rintro _ w4 ⟨m29, e4, rfl, b4, c4⟩
  have H4 : Hold w [] w4 [rB g27 60 ([.pointer (some ⟨gp, 0, none⟩), .int .i64 s, .int .i64 b, .int .i64 (s * b), .int .i64 (tabs s b), .int .i64 (logs s b), .int .i64 (logs s b + s * b), .int .i64 (s * b - 2 * b), .map none, .map none, tv, .int .i64 1, .int .i64 (-1), .int .i64 0, .int .i64 0, .func (.func 31) #[] #[]]), rMW m29 ([])] := Hold.newMW H3 e4 b4 c4
  clear H3
  clear e4 b4 c4
  have b5 : B w4 g27 60 ([.pointer (some ⟨gp, 0, none⟩), .int .i64 s, .int .i64 b, .int .i64 (s * b), .int .i64 (tabs s b), .int .i64 (logs s b), .int .i64 (logs s b + s * b), .int .i64 (s * b - 2 * b), .map none, .map none, tv, .int .i64 1, .int .i64 (-1), .int .i64 0, .int .i64 0, .func (.func 31) #[] #[]]) := Hold.blk H4 0 rfl
  refine r (nck rfl) (r (fa Tryz.underlying60 rfl ti56 rfl rfl) (r (fa Tryz.underlying56 rfl ti54 rfl rfl) (r (fa Tryz.underlying54 rfl ti52 rfl rfl) (ef0 (xst (vs := [.map (some m29)]) ti52 rfl rfl (cel1 rfl) b5 rfl (Nat.le_of_ble_eq_true rfl) (one_all rfl)) ?_))))
  rintro w6 ⟨-, b6, c6⟩
  have H5 : Hold w [] w6 [rB g27 60 ([.pointer (some ⟨gp, 0, none⟩), .int .i64 s, .int .i64 b, .int .i64 (s * b), .int .i64 (tabs s b), .int .i64 (logs s b), .int .i64 (logs s b + s * b), .int .i64 (s * b - 2 * b), .map (some m29), .map none, tv, .int .i64 1, .int .i64 (-1), .int .i64 0, .int .i64 0, .func (.func 31) #[] #[]]), rMW m29 ([])] := Hold.setB H4 0 rfl b6 c6 rfl
  clear H4
  clear b6 c6
  refine re (sq (sq (rg (r (mv z0) (r (nck rfl) (r (fa Tryz.underlying80 rfl ti78 rfl rfl) (r (ldb Tryz.underlying78 rfl rfl ((Hold.ch H5).b0 hB) rfl) (r (lnl Tryz.underlying78 rfl) (r (mv rfl) (re (bl ?_)))))))))))
  refine lp (α := Unit) (fun _u ρ w' => ρ 0 = .pointer (some ⟨gm, 0, none⟩) ∧ ρ 3 = .pointer (some ⟨g27, 0, none⟩) ∧ ρ 37 = .slice none 0 0 ∧ ρ 38 = .int .i64 ((0 : Nat) : Int) ∧ ρ 39 = .int .i64 0 ∧ Hold w [] w' [rB g27 60 ([.pointer (some ⟨gp, 0, none⟩), .int .i64 s, .int .i64 b, .int .i64 (s * b), .int .i64 (tabs s b), .int .i64 (logs s b), .int .i64 (logs s b + s * b), .int .i64 (s * b - 2 * b), .map (some m29), .map none, tv, .int .i64 1, .int .i64 (-1), .int .i64 0, .int .i64 0, .func (.func 31) #[] #[]]), rMW m29 ([])] ∧ True) (fun _u => 0) () ?_ ?_
  · exact ⟨z0, z3, rfl, rfl, rfl, H5, trivial⟩
  clear H5
  rintro _u ρ w506 ⟨y0, y3, y37, y38, y39, H6, -⟩
  refine sq (rg (r (bi y39 y38 rfl) (re (sq ?_))))
  refine cf ((rfl : _ = Value.bool (decide ((0 : Int) < ((0 : Nat) : Int)))).trans (congrArg Value.bool (show (decide ((0 : Int) < ((0 : Nat) : Int))) = false from (decide_eq_false (by omega))))) ?_
  have b7 : B w506 g27 60 ([.pointer (some ⟨gp, 0, none⟩), .int .i64 s, .int .i64 b, .int .i64 (s * b), .int .i64 (tabs s b), .int .i64 (logs s b), .int .i64 (logs s b + s * b), .int .i64 (s * b - 2 * b), .map (some m29), .map none, tv, .int .i64 1, .int .i64 (-1), .int .i64 0, .int .i64 0, .func (.func 31) #[] #[]]) := Hold.blk H6 0 rfl
  have b9 : MpW w506 m29 ([]) := Hold.mpw H6 1 rfl
  refine ex rfl (sq (rg (r (mv y3) (r (mv y3) (r (nck rfl) (r (fa Tryz.underlying60 rfl ti56 rfl rfl) (r (fa Tryz.underlying56 rfl ti54 rfl rfl) (r (fa Tryz.underlying54 rfl ti52 rfl rfl) (r (ldb Tryz.underlying52 rfl rfl b7 rfl) (cl go32 (maps_Clone b9) (ac rfl an) ?_))))))))))
  rintro r wl ⟨gd', rfl, Hl⟩
  have H7 : Hold w [] wl [rB g27 60 ([.pointer (some ⟨gp, 0, none⟩), .int .i64 s, .int .i64 b, .int .i64 (s * b), .int .i64 (tabs s b), .int .i64 (logs s b), .int .i64 (logs s b + s * b), .int .i64 (s * b - 2 * b), .map (some m29), .map none, tv, .int .i64 1, .int .i64 (-1), .int .i64 0, .int .i64 0, .func (.func 31) #[] #[]]), rMW m29 ([]), rMW gd' ([])] := Hold.news H6 Hl
  clear H6
  clear Hl
  have b10 : B wl g27 60 ([.pointer (some ⟨gp, 0, none⟩), .int .i64 s, .int .i64 b, .int .i64 (s * b), .int .i64 (tabs s b), .int .i64 (logs s b), .int .i64 (logs s b + s * b), .int .i64 (s * b - 2 * b), .map (some m29), .map none, tv, .int .i64 1, .int .i64 (-1), .int .i64 0, .int .i64 0, .func (.func 31) #[] #[]]) := Hold.blk H7 0 rfl
  refine r (nck rfl) (r (fa Tryz.underlying60 rfl ti57 rfl rfl) (r (fa Tryz.underlying57 rfl ti54 rfl rfl) (r (fa Tryz.underlying54 rfl ti52 rfl rfl) (ef0 (xst (vs := [.map (some gd')]) ti52 rfl rfl (cel1 rfl) b10 rfl (Nat.le_of_ble_eq_true rfl) (one_all rfl)) ?_))))
  rintro w11 ⟨-, b11, c11⟩
  have H8 : Hold w [] w11 [rB g27 60 ([.pointer (some ⟨gp, 0, none⟩), .int .i64 s, .int .i64 b, .int .i64 (s * b), .int .i64 (tabs s b), .int .i64 (logs s b), .int .i64 (logs s b + s * b), .int .i64 (s * b - 2 * b), .map (some m29), .map (some gd'), tv, .int .i64 1, .int .i64 (-1), .int .i64 0, .int .i64 0, .func (.func 31) #[] #[]]), rMW m29 ([]), rMW gd' ([])] := Hold.setB H7 0 rfl b11 c11 rfl
  clear H7
  clear b11 c11
  refine re (sq ?_)
  refine gen (fun ρ => ρ 3 = .pointer (some ⟨g27, 0, none⟩) ∧ True) ⟨y3, trivial⟩ ?_
  rintro ρ ⟨z3, -⟩
  refine rg (r (mv z3) (r (sa rfl) (re (rt ?_))))
  exact fin1 (v := .pointer (some ⟨g27, 0, none⟩)) Tryz.results9 rfl ⟨_, _, _, rfl, H8⟩
end Go.Proofs.YtanfhikfeabidaaGreatDoor
