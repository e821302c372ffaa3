/-
  CONTRACTS 48: drawn choices; what a settled disk reads as; THE LAW'S WALK: FnDisk. No condition.
-/
import Derived.Test.Ytgpcanjmgdmdhaa47
namespace Go.Eng
section
variable {P : Program} {n : Nat} {ρ : Fr} {ds : List Deferred} {w : World} {ops : Array Oper} {K : Fr → World → Prop} {Kp : List PanicEntry → World → Prop} {S' : World → Prop} {fuel : Nat} {listed : Array Bool}
/-- A guarded operation that reads, at its time. -/
theorem eurg {i : Nat} {d : Option Nat} {op : Op} {ty : TypeId} {pos : String} {af : Array Edge} {j t : Nat} {b : Bool} {v : Value} (hi : ops[i]? = some ⟨d, op, ty, pos, af, some (j, b)⟩) (hj : (ops[j]?).bind (·.dst) = some t) (ht : ρ t = .bool b) (hn : Nat.blt t n = true) (hr : Rn P ρ ⟨d, op, ty, pos, af, none⟩ w v)
    (hS : (listed.setIfInBounds i true).all id = true ∨ S' w) (h : De P n ops K Kp S' fuel (listed.setIfInBounds i true) (updo ρ d v) ds w) : Ue P n ops K Kp S' fuel listed i ρ ds w := by
  intro hl a ha
  unfold wpOp
  simp only [hi, Region.wanted, yld (ops := ops) ha hj ht hn, vb, beq_self_eq_true, if_true]
  refine .inl ?_
  unfold Oper.wp
  have hr' := hr.2 w (Ch.refl _ _)
  rw [ha.eval]
  rw [show (execOp (ev ρ) ⟨d, op, ty, pos, af, some (j, b)⟩).run P w = .ok (.value v) w from hr']
  exact ⟨hS, fun hcl => h hl hcl hS _ (ha.put d (okl_at hl (by simpa using hi)) v)⟩
end
end Go.Eng
namespace Go.Proofs.Ytgpcanjmgdmdhaa
open Go Go.Eng
set_option maxRecDepth 100000
set_option maxHeartbeats 4000000
set_option linter.unusedVariables false
set_option linter.unusedSimpArgs false
theorem ok8_wg {xs : List Int} (h : ∀ x, x ∈ xs → (Lit.int .u8 x).wf = true) : ok8 xs := fun x hx => by
  have := h x hx
  simp [Lit.wf, IntKind.min, IntKind.max, IntKind.signed, IntKind.bits] at this
  omega
def blkAt (X : List Int) (b : Int) : List Int := (X.take (b.toNat * 64 + 64)).drop (b.toNat * 64)
theorem blkAt_get (X : List Int) (b : Int) (i : Nat) : (blkAt X b)[i]? = if i < 64 then X[b.toNat * 64 + i]? else none := by
  rw [blkAt, List.getElem?_drop, List.getElem?_take]
  by_cases h : i < 64
  · rw [if_pos h, if_pos (by omega)]
  · rw [if_neg h, if_neg (by omega)]
theorem setl_get {X : List Int} {x : Wr} {c j : Nat} (h64 : x.2.length = 64) (hb : x.1.toNat * 64 + 64 ≤ X.length) (hc : c ≤ 64) : (setl X x c)[j]? = if x.1.toNat * 64 ≤ j ∧ j < x.1.toNat * 64 + c then x.2[j - x.1.toNat * 64]? else X[j]? := by
  have l2 : (x.2.take c).length = c := by simp; omega
  have l1 : (X.take (x.1.toNat * 64)).length = x.1.toNat * 64 := by simp; omega
  unfold setl
  rw [l2]
  by_cases h1 : j < x.1.toNat * 64
  · rw [if_neg (by omega), List.append_assoc, List.getElem?_append_left (by omega), List.getElem?_take, if_pos h1]
  · by_cases h2 : j < x.1.toNat * 64 + c
    · rw [if_pos ⟨by omega, h2⟩, List.append_assoc, List.getElem?_append_right (by omega), l1, List.getElem?_append_left (by omega), List.getElem?_take, if_pos (by omega)]
    · rw [if_neg (by omega), List.getElem?_append_right (by simp only [List.length_append, l1, l2]; omega)]
      simp only [List.length_append, l1, l2, List.getElem?_drop]
      congr 1; omega
theorem blk_setl_64 {X : List Int} {x : Wr} {b : Int} (h64 : x.2.length = 64) (hb : x.1.toNat * 64 + 64 ≤ X.length) (h0 : 0 ≤ x.1) (hb0 : 0 ≤ b) : blkAt (setl X x 64) b = if x.1 = b then x.2 else blkAt X b := by
  apply List.ext_getElem?
  intro i
  rw [blkAt_get]
  by_cases e : x.1 = b
  · rw [if_pos e]; subst e
    by_cases hi : i < 64
    · rw [if_pos hi, setl_get h64 hb (Nat.le_refl _), if_pos (by omega)]; congr 1; omega
    · rw [if_neg hi, List.getElem?_eq_none (by omega)]
  · rw [if_neg e, blkAt_get]
    by_cases hi : i < 64
    · rw [if_pos hi, if_pos hi, setl_get h64 hb (Nat.le_refl _), if_neg (by omega)]
    · rw [if_neg hi, if_neg hi]
theorem blk_setl_other {X : List Int} {x : Wr} {b : Int} {c : Nat} (h64 : x.2.length = 64) (hb : x.1.toNat * 64 + 64 ≤ X.length) (h0 : 0 ≤ x.1) (hb0 : 0 ≤ b) (hc : c ≤ 64) (e : x.1 ≠ b) : blkAt (setl X x c) b = blkAt X b := by
  apply List.ext_getElem?
  intro i
  rw [blkAt_get, blkAt_get]
  by_cases hi : i < 64
  · rw [if_pos hi, if_pos hi, setl_get h64 hb hc, if_neg (by omega)]
  · rw [if_neg hi, if_neg hi]
theorem blk_st {xs : List Int} {ps : List Wr} (V : VD xs ps) {b : Int} (hb0 : 0 ≤ b) : ∀ k, k ≤ ps.length → blkAt (stN xs ps (fun _ => 64) k) b = readD xs (ps.take k) b := by
  intro k
  induction k with
  | zero => intro _; rfl
  | succ k ih =>
    intro hk
    have hw := V.ok _ (List.getElem_mem hk)
    have hb := V.at (b := ps[k].1) ⟨hw.1, hw.2.1⟩
    rw [stN_succ hk, List.take_succ_eq_append_getElem hk, readD_app, blk_setl_64 hw.2.2 (by rw [stN_len V]; exact hb) hw.1 hb0, ih (by omega)]
theorem blk_st_other {xs : List Int} {ps : List Wr} (V : VD xs ps) {b : Int} {f : Nat → Nat} (hf : ∀ i, f i ≤ 64) (hb0 : 0 ≤ b) (hn : ∀ x, x ∈ ps → x.1 ≠ b) : ∀ k, k ≤ ps.length → blkAt (stN xs ps f k) b = blkAt xs b := by
  intro k
  induction k with
  | zero => intro _; rfl
  | succ k ih =>
    intro hk
    have hw := V.ok _ (List.getElem_mem hk)
    have hb := V.at (b := ps[k].1) ⟨hw.1, hw.2.1⟩
    rw [stN_succ hk, blk_setl_other hw.2.2 (by rw [stN_len V]; exact hb) hw.1 hb0 (hf k) (hn _ (List.getElem_mem hk)), ih (by omega)]
theorem readD_calm {xs : List Int} {ps : List Wr} {b : Int} (hn : ∀ x, x ∈ ps → x.1 ≠ b) : readD xs ps b = blkAt xs b := by
  induction ps using rev_ind with
  | h0 => rfl
  | h1 ps x ih => rw [readD_app, if_neg (hn x (by simp)), ih (fun y hy => hn y (by simp [hy]))]
theorem VD.vd {xs : List Int} {ps : List Wr} (V : VD xs ps) : vdisk xs ps = true := vdisk_good ⟨V.mod, V.one, V.top, V.num⟩ V.ok
theorem VD.st {xs : List Int} {ps : List Wr} {f : Nat → Nat} (V : VD xs ps) : VD (stN xs ps f ps.length) [] := by
  have hl := stN_len (f := f) V ps.length
  have hb : blks (stN xs ps f ps.length) = blks xs := by unfold blks; rw [hl]
  exact ⟨by rw [hl]; exact V.mod, by rw [hb]; exact V.one, by rw [hb]; exact V.top, by simp, by simp⟩
/-- The law of FnDisk, in plain Lean. -/
structure DkLaw (A : Dsk) (b : Int) (dt : List Int) : Prop where
  V : VD A.1 (A.2 ++ [(b, dt)])
  V0 : VD A.1 A.2
  b0 : 0 ≤ b
  bn : b < blks A.1
theorem DkLaw.of {A : Dsk} {b : Int} {dt : List Int} (h : dwOk A.1 A.2 b dt) : DkLaw A b dt := by
  obtain ⟨h1, h2, h3, h4, h5⟩ := h
  have V := VD.of h1
  have := V.num
  refine ⟨⟨V.mod, V.one, V.top, by simp; omega, fun x hx => ?_⟩, V, h3, h4⟩
  rcases List.mem_append.1 hx with hx | hx
  · exact V.ok x hx
  · rw [List.mem_singleton.1 hx]; exact ⟨h3, h4, h5⟩
theorem db_eq {xs : List Int} {ps : List Wr} (V : VD xs ps) : dbD xs ps = (stN xs ps (fun _ => 64) ps.length, []) := dbD_yes V.vd
theorem dc_eq {xs cs : List Int} {ps : List Wr} (V : VD xs ps) (hc : cs.length ≤ 400) : dcD xs ps cs = (stN xs ps (fun i => (crI cs i).toNat) ps.length, []) := dcD_yes ⟨V.vd, hc⟩
theorem dr_eq {xs : List Int} {ps : List Wr} {b : Int} (V : VD xs ps) (h0 : 0 ≤ b) (hn : b < blks xs) : drD xs ps b = readD xs ps b := if_pos ⟨V.vd, h0, hn⟩
theorem blks_st {xs : List Int} {ps : List Wr} {f : Nat → Nat} (V : VD xs ps) : blks (stN xs ps f ps.length) = blks xs := by unfold blks; rw [stN_len V]
/-- What is written ahead of a barrier is read behind a crash. -/
theorem DkLaw.kept {A : Dsk} {b : Int} {dt cs : List Int} (L : DkLaw A b dt) (hc : cs.length ≤ 400) : drD (dcD (dbD A.1 (A.2 ++ [(b, dt)])).1 (dbD A.1 (A.2 ++ [(b, dt)])).2 cs).1 (dcD (dbD A.1 (A.2 ++ [(b, dt)])).1 (dbD A.1 (A.2 ++ [(b, dt)])).2 cs).2 b = dt := by
  rw [db_eq L.V]
  have V2 := VD.st (f := fun _ => 64) L.V
  rw [dc_eq V2 hc]
  show drD (stN A.1 (A.2 ++ [(b, dt)]) (fun _ => 64) (A.2 ++ [(b, dt)]).length) [] b = dt
  rw [dr_eq V2 L.b0 (by rw [blks_st L.V]; exact L.bn)]
  show blkAt _ b = dt
  rw [blk_st L.V L.b0 _ (Nat.le_refl _), List.take_length, readD_app, if_pos rfl]
theorem DkLaw.read {A : Dsk} {b : Int} {dt : List Int} (L : DkLaw A b dt) : drD A.1 (A.2 ++ [(b, dt)]) b = dt := by rw [dr_eq L.V L.b0 L.bn, readD_app, if_pos rfl]
theorem DkLaw.calm {A : Dsk} {b o : Int} {dt cs : List Int} (L : DkLaw A b dt) (hc : cs.length ≤ 400) (h0 : 0 ≤ o) (hn : o < blks A.1) (hb : o ≠ b) (hps : ∀ x, x ∈ A.2 → x.1 ≠ o) : drD (dcD A.1 (A.2 ++ [(b, dt)]) cs).1 (dcD A.1 (A.2 ++ [(b, dt)]) cs).2 o = drD A.1 A.2 o := by
  rw [dc_eq L.V hc]
  show drD (stN A.1 (A.2 ++ [(b, dt)]) (fun i => (crI cs i).toNat) (A.2 ++ [(b, dt)]).length) [] o = _
  rw [dr_eq (VD.st L.V) h0 (by rw [blks_st L.V]; exact hn), dr_eq L.V0 h0 hn, readD_calm hps]
  show blkAt _ o = _
  exact blk_st_other L.V (fun i => by have := crI_rng cs i; omega) h0 (fun x hx => by
    rcases List.mem_append.1 hx with hx | hx
    · exact hps x hx
    · rw [List.mem_singleton.1 hx]; exact fun e => hb e.symm) _ (Nat.le_refl _)
theorem DkLaw.end {A : Dsk} {b : Int} {dt cs : List Int} (L : DkLaw A b dt) (hc : cs.length ≤ 400) : (dcD A.1 (A.2 ++ [(b, dt)]) cs).2 = [] ∧ (dcD A.1 (A.2 ++ [(b, dt)]) cs).1.length = A.1.length := by
  rw [dc_eq L.V hc]; exact ⟨rfl, stN_len L.V _⟩
theorem drD_nil (b : Int) : drD [] [] b = [] := if_neg (fun e => by have := (VD.of e.1).one; simp [blks] at this)
theorem lwAt {w : World} {F : List Nat} {v : Value} {xs : List Int} {i : Nat} (hx : u8.R w F v xs) (lx : xs.length ≤ 1000000000) (ok : ok8 xs) (hi : i ≤ 1000) :
    Ret Try.prog 142 #[v, .int .i64 (i : Int), .int .i64 70] w (fun r w' => ∃ t, r = .int .i64 t ∧ 0 ≤ t ∧ t < 70 ∧ Ch [] w w') := by
  refine enter Try.func142 rfl Try.ntmps142 (by rfl) (by rfl) ?_
  have H0 : Hold w [] w [] := Hold.start w
  refine sq (rg (r (sa rfl) (re (sq (sq (rg (r (mv rfl) (r (bi rfl rfl rfl) (re ?_)))))))))
  refine cf ((rfl : _ = Value.bool (decide ((70 : Int) ≤ 1))).trans (congrArg Value.bool (show (decide ((70 : Int) ≤ 1)) = false from (by decide)))) ?_
  refine sk (sq (sq (rg (r (mv rfl) (r (ln Try.underlying40 rfl ((hx.t (Hold.ch H0)))) (r (bi rfl rfl rfl) (re ?_)))))))
  refine cp rfl (fun h0 => ?_) (fun h0 => ?_)
  · refine sq (rg (r (mv rfl) (r (ml (a := (i : Int)) (b := 7) ((i : Int) * 7) rfl rfl (by omega)) (r (mv rfl) (r (rm (a := (i : Int) * 7) (b := 70) (((i : Int) * 7) % 70) rfl rfl ⟨by omega, by rw [Int.tmod_eq_emod_of_nonneg (by omega)]⟩) (r (sa rfl) (re (rt ?_))))))))
    exact fin1 (v := .int .i64 (((i : Int) * 7) % 70)) Try.results142 rfl ⟨_, rfl, by omega, by omega, Hold.ch H0⟩
  · have hq := Nat.div_le_self i xs.length
    have hm := Nat.mod_lt i (show 0 < xs.length by omega)
    have hb := ok _ (List.getElem_mem hm)
    obtain ⟨y, hy⟩ : ∃ y, y = xs[i % xs.length] := ⟨_, rfl⟩
    obtain ⟨qd, hq2⟩ : ∃ q, q = i / xs.length := ⟨_, rfl⟩
    refine sk (sq (rd mixed (by kernel_rfl) (q (mv rfl) (q (mv rfl) (q (mv rfl) (q (ln Try.underlying40 rfl ((hx.t (Hold.ch H0)))) (q (rm (a := (i : Int)) (b := (xs.length : Int)) (((i % xs.length : Nat) : Int)) rfl rfl ⟨by omega, by rw [Int.tmod_eq_emod_of_nonneg (by omega)]; simp⟩) ?_)))))))
    obtain ⟨c21_1, ad21_1, k21_1, e21_1, p21_1⟩ := Kd.R.place hx (i % xs.length) (hm)
    refine q (ix (j := i % xs.length) Try.underlying40 ti5 e21_1 rfl (hm)) (q (ld Try.underlying5 rfl rfl (Ch.cell (Hold.ch H0) p21_1.cell)) (q (cv (y) Try.underlying5 Try.underlying3 rfl (by rw [hy]; exact IntWalk.i64_in _ (by omega))) (q (mv rfl) (q (mv rfl) (q (ln Try.underlying40 rfl ((hx.t (Hold.ch H0)))) (q (dv (a := (i : Int)) (b := (xs.length : Int)) (((qd : Nat) : Int)) rfl rfl ⟨by omega, by rw [Int.tdiv_eq_ediv_of_nonneg (by omega), hq2]; simp, by omega, by omega⟩) (q (ad (a := y) (b := ((qd : Nat) : Int)) (y + ((qd : Nat) : Int)) rfl rfl (by omega)) (q (mv rfl) (q (rm (a := y + ((qd : Nat) : Int)) (b := 70) ((y + (qd : Int)) % 70) rfl rfl ⟨by omega, by rw [Int.tmod_eq_emod_of_nonneg (by omega)]⟩) (q (sa rfl) (me ?_)))))))))))
    intro w1 c1
    have H1 : Hold w [] w1 [] := Hold.t H0 c1
    clear H0
    refine rt ?_
    exact fin1 (v := .int .i64 ((y + (qd : Int)) % 70)) Try.results142 rfl ⟨_, rfl, by omega, by omega, Hold.ch H1⟩
theorem lwChoices {w : World} {F : List Nat} {v : Value} {xs : List Int} {i : Nat} (hx : u8.R w F v xs) (lx : xs.length ≤ 1000000000) (ok : ok8 xs) (hi : i ≤ 100) :
    Ret Try.prog 88 #[v, .int .i64 (i : Int)] w (fun r w' => ∃ cs, cs.length = 9 ∧ Hold w [] w' [rR i64 2 r cs]) := by
  refine enter Try.func88 rfl Try.ntmps88 (by rfl) (by rfl) ?_
  have H0 : Hold w [] w [] := Hold.start w
  refine sq (rg (r (sa rfl) (re (sq (rg (ef (xbs0 (dk := i64) Try.underlying22 ti2) ?_))))))
  rintro v1 w1 N1
  have H1 : Hold w [] w1 [rR i64 2 v1 ([])] := Hold.newr H0 N1
  clear H0
  refine r (sa rfl) (re (sq (sq (rg (r (sa rfl) (re (bl ?_)))))))
  refine lp (α := Nat × Value × List Int) (fun (k, o, cs) ρ w' => ρ 0 = v ∧ ρ 1 = .int .i64 (i : Int) ∧ ρ 5 = o ∧ ρ 6 = .int .i64 (k : Int) ∧ Hold w [] w' [rR i64 2 o cs] ∧ k ≤ 9 ∧ cs.length = k) (fun (k, o, cs) => 9 - k) (0, v1, []) ?_ ?_
  · exact ⟨rfl, rfl, rfl, rfl, H1, ⟨by omega, rfl⟩⟩
  clear H1
  rintro ⟨k, o, cs⟩ ρ w502 ⟨y0, y1, y5, y6, H2, ⟨hk, hcs⟩⟩
  refine sq (sq (rg (r (mv y6) (r (bi rfl rfl rfl) (re ?_)))))
  refine cp rfl (fun h => ?_) (fun h => ?_)
  · refine sk (sq (bl (rg (r (mv y5) (r (mv y0) (r (mv y1) (r (mv y6) (r (ad (a := (i : Int)) (b := (k : Int)) (((i + k : Nat) : Int)) rfl rfl (by omega)) (cl go142 (lwAt (i := i + k) (hx.t (Hold.ch H2)) lx ok (by omega)) (ac rfl (ac rfl (ac rfl an))) ?_)))))))))
    rintro r wl ⟨t, rfl, ht0, ht1, cl⟩
    have H3 : Hold w [] wl [rR i64 2 o cs] := Hold.t H2 cl
    clear H2
    clear cl
    refine r (sb (a := t) (b := 2) (t - 2) rfl rfl (by omega)) (ef (xbs1 (cs := [.int .i64 (t - 2)]) Try.underlying22 ti2 rfl rfl rfl (cel1 rfl) rfl) ?_)
    rintro _ w3 ⟨g19, e3, rfl, -, b3, c3⟩
    have H4 : Hold w [] w3 [rR i64 2 o cs, rB g19 2 ([.int .i64 (t - 2)])] := Hold.newB H3 e3 b3 c3
    clear H3
    clear e3 b3 c3
    have b5 : B w3 g19 2 ([.int .i64 (t - 2)]) := Hold.blk H4 1 rfl
    obtain ⟨F6, P6, n6, s6, K6⟩ := Hold.pick H4 0 rfl
    replace P6 : Kd.W i64 2 w3 F6 o cs := P6
    refine ef (xapb (ys := [t - 2]) Try.underlying22 ti2 rfl rfl rfl P6 b5 (els_one (R := Kd.O i64 _) (show Kd.O i64 _ [] (t - 2) _ from ⟨rfl, rfl⟩)) (nodup_nil n6) (by simp; omega)) ?_
    rintro v20_4 w4 ⟨F4, A4⟩
    have H5 : Hold w [] w4 [rR i64 2 v20_4 (cs ++ [t - 2]), rB g19 2 ([.int .i64 (t - 2)])] := Hold.apd K6 P6 A4 rfl
    clear H4
    clear A4 K6 P6 n6 s6
    refine r (sa rfl) (re (be ?_))
    refine gen (fun ρ => ρ 0 = v ∧ ρ 1 = .int .i64 (i : Int) ∧ ρ 5 = v20_4 ∧ ρ 6 = .int .i64 (k : Int) ∧ True) ⟨y0, y1, rfl, y6, trivial⟩ ?_
    rintro ρ ⟨z0, z1, z5, z6, -⟩
    refine rg (r (mv z6) (r (ad (a := (k : Int)) (b := 1) ((k : Int) + 1) rfl rfl (by omega)) (r (sa rfl) (re ?_))))
    have H6 : Hold w [] w4 [rR i64 2 v20_4 (cs ++ [t - 2])] := (show Hold w [] w4 ([rR i64 2 v20_4 (cs ++ [t - 2])] ++ [rB g19 2 ([.int .i64 (t - 2)])]) from Hold.re H5 [0, 1] (by kernel_rfl) (by rfl)).drop
    clear H5
    exact ag (k + 1, v20_4, cs ++ [t - 2]) ⟨z0, z1, z5, rfl, H6, ⟨by omega, by simp; omega⟩⟩ (by first | omega | (dsimp only; omega))
  · refine ex rfl (sq (rg (r (mv y5) (r (sa rfl) (re (rt ?_))))))
    exact fin1 (v := o) Try.results88 rfl ⟨cs, by omega, H2⟩
attribute [local irreducible] dwDk dwBk dwDt dbD dcD
theorem impl_DW2 {w : World} {F G F2 : List Nat} {v u z : Value} {xs ys : List Int} {ps : List Wr} {b : Int} (hx : u8.R w F v xs) (hp : kW.R w G u ps) (lx : xs.length ≤ 1000000000) (hlp : ps.length ≤ 2000000) (lxx : ∀ x, x ∈ ps → x.2.length ≤ 1000000000) (hz : u8.R w F2 z (nums8 (mkS ys))) (lz : ys.length ≤ 1000000000) (ok : ok8 ys) :
    Ret Try.prog 83 #[.agg #[v, u], .int .i64 b, z] w (fun r w' => ∃ a c, r = .agg #[a, c] ∧ Hold w [] w' [rR u8 5 a (dwD xs ps b ys).1, rR kW 112 c (dwD xs ps b ys).2]) := by
  rw [nums8_mkS ok] at hz
  exact impl_DiskWrite hx hp lx hlp lxx hz lz
theorem Sm.sw {D : Dsk} (h : Sm D) : Sw D := ⟨Nat.le_trans h.x (by omega), Nat.le_trans h.p (by omega), h.xx⟩
theorem w_FnDisk {w : World} {F G : List Nat} {v u : Value} {xs ys : List Int} (hx : u8.R w F v xs) (hy : u8.R w G u ys) (l0 : xs.length ≤ 9223372036854775807) (l1 : ys.length ≤ 9223372036854775807) (okx : ok8 xs) (oky : ok8 ys) :
    Ret Try.prog 21 #[v, u] w (fun r w' => r = .bool true ∧ Ch [] w w') := by
  obtain ⟨A, hA⟩ : ∃ A, A = dwDk xs := ⟨_, rfl⟩
  obtain ⟨b, hb⟩ : ∃ b, b = dwBk xs := ⟨_, rfl⟩
  obtain ⟨dt, hdt⟩ : ∃ dt, dt = dwDt xs := ⟨_, rfl⟩
  have okd : ok8 dt := by rw [hdt]; exact dwDt_ok8 okx
  have ldt : dt.length ≤ 64 := by rw [hdt]; exact dwDt_len
  obtain ⟨lx, hlp, lxx⟩ : Sw A := by rw [hA]; unfold dwDk; exact drawDisk_sw (srcOf_ok okx)
  refine enter Try.func21 rfl Try.ntmps21 (by rfl) (by rfl) ?_
  have H0 : Hold w [] w [] := Hold.start w
  refine sq (rg (r (sa rfl) (re (sq (sq (rg (r (mv rfl) (r (ln Try.underlying40 rfl ((hx.t (Hold.ch H0)))) (r (bi rfl rfl rfl) (r (mv rfl) ?_))))))))))
  refine sp 18 rfl (fun hlx => ?_) (fun hlx => ?_)
  · refine gn rfl rfl rfl (gn rfl rfl rfl (gn rfl rfl rfl (r (pk rfl rfl) (re (ct rfl (sq (rg (r (sa rfl) (re (rt ?_))))))))))
    exact fin1 (v := .bool true) Try.results21 rfl ⟨rfl, Hold.ch H0⟩
  · refine gy rfl rfl rfl (r (mv rfl) (gy rfl rfl rfl (r (ln Try.underlying40 rfl ((hy.t (Hold.ch H0)))) (gy rfl rfl rfl (r (bi rfl rfl rfl) (r (pk rfl rfl) (re ?_)))))))
    refine cp rfl (fun hly => ?_) (fun hly => ?_)
    · refine sq (rg (r (sa rfl) (re (rt ?_))))
      exact fin1 (v := .bool true) Try.results21 rfl ⟨rfl, Hold.ch H0⟩
    · have lv : xs.length ≤ 1000000000 := by omega
      have lu : ys.length ≤ 1000000000 := by omega
      refine sk (sq (rg (r (mv rfl) (cl go86 (DrawDiskWrite (hx.t (Hold.ch H0)) lv okx) (ac rfl an) ?_))))
      rintro r wdm1 ⟨am1, cm1, zm1, erm1, Hdm1⟩
      rw [← hb] at erm1
      rw [← hA, ← hdt] at Hdm1
      subst erm1
      have H1 : Hold w [] wdm1 [rR u8 5 am1 A.1, rR kW 112 cm1 A.2, rT zm1 dt] := Hold.news H0 Hdm1
      clear H0
      clear Hdm1
      refine r (mv rfl) (r (xt rfl rfl) (r (xt rfl rfl) (r (xt rfl rfl) (ef (xal ti49) ?_))))
      rintro _ w2 ⟨g5, e2, rfl, -, b2, c2⟩
      have H2 : Hold w [] w2 [rR u8 5 am1 A.1, rR kW 112 cm1 A.2, rT zm1 dt, rB g5 49 ([.slice none 0 0, .slice none 0 0])] := Hold.newB H1 e2 b2 c2
      clear H1
      clear e2 b2 c2
      have b3 : B w2 g5 49 ([.slice none 0 0, .slice none 0 0]) := Hold.blk H2 3 rfl
      obtain ⟨_, R5⟩ : ∃ F, Kd.R kW w2 F cm1 A.2 := Hold.row H2 1 rfl
      obtain ⟨_, R6⟩ : ∃ F, Kd.R u8 w2 F am1 A.1 := Hold.row H2 0 rfl
      refine ef0 (xst (vs := [am1, cm1]) ti49 rfl rfl rfl b3 rfl (Nat.le_of_ble_eq_true rfl) (oc (R6).oneCell (oc (R5).oneCell on))) ?_
      rintro w4 ⟨-, b4, c4⟩
      have H3 : Hold w [] w4 [rR u8 5 am1 A.1, rR kW 112 cm1 A.2, rT zm1 dt, rB g5 49 ([am1, cm1])] := Hold.setB H2 3 rfl b4 c4 rfl
      clear H2
      clear b4 c4
      refine r (sa rfl) (r (sa rfl) (re (sq ?_)))
      refine gen (fun ρ => ρ 0 = v ∧ ρ 1 = u ∧ ρ 4 = .bool false ∧ ρ 5 = .pointer (some ⟨g5, 0, none⟩) ∧ ρ 6 = .int .i64 b ∧ ρ 7 = zm1 ∧ True) ⟨rfl, rfl, rfl, rfl, rfl, rfl, trivial⟩ ?_
      rintro ρ ⟨z0, z1, z4, z5, z6, z7, -⟩
      have b7 : B w4 g5 49 ([am1, cm1]) := Hold.blk H3 3 rfl
      obtain ⟨_, T8⟩ := Hold.text H3 2 rfl
      refine rg (r (lab [am1, cm1] Try.underlying49 rfl ti49 z5 b7 rfl rfl) (r (mv z6) (r (mv z7) (r (cvbs Try.underlying40 Try.underlying5 Try.underlying9 T8 rfl) (ef (cvsb Try.underlying9 Try.underlying40 Try.underlying5 rfl) ?_)))))
      rintro v9 w9 ⟨⟨g9, e9, -, R9⟩, c9⟩
      have H4 : Hold w [] w9 [rR u8 5 am1 A.1, rR kW 112 cm1 A.2, rT zm1 dt, rB g5 49 ([am1, cm1]), rT v9 (nums8 (mkS dt))] := Hold.newT H3 e9 R9 c9
      clear H3
      obtain ⟨_, R11⟩ : ∃ F, Kd.R u8 w9 F am1 A.1 := Hold.row H4 0 rfl
      obtain ⟨_, R12⟩ : ∃ F, Kd.R kW w9 F cm1 A.2 := Hold.row H4 1 rfl
      obtain ⟨_, T13⟩ := Hold.text H4 4 rfl
      refine cl go83 (impl_DW2 R11 R12 lx hlp lxx T13 (by omega) okd) (ac rfl (ac rfl (ac rfl an))) ?_
      rintro r wi ⟨xi, yi, rfl, Hi⟩
      have H5 : Hold w [] wi [rR u8 5 am1 A.1, rR kW 112 cm1 A.2, rT zm1 dt, rB g5 49 ([am1, cm1]), rT v9 (nums8 (mkS dt)), rR u8 5 xi ((dwD A.1 A.2 b dt).1), rR kW 112 yi ((dwD A.1 A.2 b dt).2)] := Hold.news H4 Hi
      clear H4
      clear Hi
      refine ef (xal ti49) ?_
      rintro _ w14 ⟨g8, e14, rfl, -, b14, c14⟩
      have H6 : Hold w [] w14 [rR u8 5 am1 A.1, rR kW 112 cm1 A.2, rT zm1 dt, rB g5 49 ([am1, cm1]), rT v9 (nums8 (mkS dt)), rR u8 5 xi ((dwD A.1 A.2 b dt).1), rR kW 112 yi ((dwD A.1 A.2 b dt).2), rB g8 49 ([.slice none 0 0, .slice none 0 0])] := Hold.newB H5 e14 b14 c14
      clear H5
      clear e14 b14 c14
      have b15 : B w14 g8 49 ([.slice none 0 0, .slice none 0 0]) := Hold.blk H6 7 rfl
      obtain ⟨_, R17⟩ : ∃ F, Kd.R kW w14 F yi ((dwD A.1 A.2 b dt).2) := Hold.row H6 6 rfl
      obtain ⟨_, R18⟩ : ∃ F, Kd.R u8 w14 F xi ((dwD A.1 A.2 b dt).1) := Hold.row H6 5 rfl
      refine ef0 (xst (vs := [xi, yi]) ti49 rfl rfl rfl b15 rfl (Nat.le_of_ble_eq_true rfl) (oc (R18).oneCell (oc (R17).oneCell on))) ?_
      rintro w16 ⟨-, b16, c16⟩
      have H7 : Hold w [] w16 [rR u8 5 am1 A.1, rR kW 112 cm1 A.2, rT zm1 dt, rB g5 49 ([am1, cm1]), rT v9 (nums8 (mkS dt)), rR u8 5 xi ((dwD A.1 A.2 b dt).1), rR kW 112 yi ((dwD A.1 A.2 b dt).2), rB g8 49 ([xi, yi])] := Hold.setB H6 7 rfl b16 c16 rfl
      clear H6
      clear b16 c16
      refine re (sq (rg (r (mv z0) (cl go86 (DrawDiskWrite (hx.t (Hold.ch H7)) lv okx) (ac rfl an) ?_))))
      rintro r wdm2 ⟨am2, cm2, zm2, erm2, Hdm2⟩
      rw [← hb] at erm2
      rw [← hA, ← hdt] at Hdm2
      subst erm2
      have H8 : Hold w [] wdm2 [rR u8 5 am1 A.1, rR kW 112 cm1 A.2, rT zm1 dt, rB g5 49 ([am1, cm1]), rT v9 (nums8 (mkS dt)), rR u8 5 xi ((dwD A.1 A.2 b dt).1), rR kW 112 yi ((dwD A.1 A.2 b dt).2), rB g8 49 ([xi, yi]), rR u8 5 am2 A.1, rR kW 112 cm2 A.2, rT zm2 dt] := Hold.news H7 Hdm2
      clear H7
      clear Hdm2
      have b20 : B wdm2 g5 49 ([am1, cm1]) := Hold.blk H8 3 rfl
      obtain ⟨_, R22⟩ : ∃ F, Kd.R kW wdm2 F cm2 A.2 := Hold.row H8 9 rfl
      obtain ⟨_, R23⟩ : ∃ F, Kd.R u8 wdm2 F am2 A.1 := Hold.row H8 8 rfl
      refine r (mv rfl) (r (xt rfl rfl) (r (xt rfl rfl) (r (xt rfl rfl) (ef0 (xst (vs := [am2, cm2]) ti49 z5 rfl rfl b20 rfl (Nat.le_of_ble_eq_true rfl) (oc (R23).oneCell (oc (R22).oneCell on))) ?_))))
      rintro w21 ⟨-, b21, c21⟩
      have H9 : Hold w [] w21 [rR u8 5 am1 A.1, rR kW 112 cm1 A.2, rT zm1 dt, rB g5 49 ([am2, cm2]), rT v9 (nums8 (mkS dt)), rR u8 5 xi ((dwD A.1 A.2 b dt).1), rR kW 112 yi ((dwD A.1 A.2 b dt).2), rB g8 49 ([xi, yi]), rR u8 5 am2 A.1, rR kW 112 cm2 A.2, rT zm2 dt] := Hold.setB H8 3 rfl b21 c21 rfl
      clear H8
      clear b21 c21
      refine r (sa rfl) (r (sa rfl) (re (sq (sq ?_))))
      refine gen (fun ρ => ρ 1 = u ∧ ρ 4 = .bool false ∧ ρ 5 = .pointer (some ⟨g5, 0, none⟩) ∧ ρ 6 = .int .i64 b ∧ ρ 7 = zm2 ∧ ρ 8 = .pointer (some ⟨g8, 0, none⟩) ∧ True) ⟨z1, z4, z5, rfl, rfl, rfl, trivial⟩ ?_
      rintro ρ ⟨z1, z4, z5, z6, z7, z8, -⟩
      have b24 : B w21 g5 49 ([am2, cm2]) := Hold.blk H9 3 rfl
      obtain ⟨_, R26⟩ : ∃ F, Kd.R u8 w21 F am2 A.1 := Hold.row H9 8 rfl
      obtain ⟨_, R27⟩ : ∃ F, Kd.R kW w21 F cm2 A.2 := Hold.row H9 9 rfl
      obtain ⟨_, T28⟩ := Hold.text H9 10 rfl
      refine rg (r (lab [am2, cm2] Try.underlying49 rfl ti49 z5 b24 rfl rfl) (r (mv z6) (r (mv z7) (cl go82 (spec_DiskWrite R26 R27 lx hlp lxx T28 (by omega)) (ac rfl (ac rfl (ac rfl an))) ?_))))
      rintro r wsp ⟨xs_, ys_, rfl, Hsp⟩
      have H10 : Hold w [] wsp [rR u8 5 am1 A.1, rR kW 112 cm1 A.2, rT zm1 dt, rB g5 49 ([am2, cm2]), rT v9 (nums8 (mkS dt)), rR u8 5 xi ((dwD A.1 A.2 b dt).1), rR kW 112 yi ((dwD A.1 A.2 b dt).2), rB g8 49 ([xi, yi]), rR u8 5 am2 A.1, rR kW 112 cm2 A.2, rT zm2 dt, rR u8 5 xs_ ((dwD A.1 A.2 b dt).1), rR kW 112 ys_ ((dwD A.1 A.2 b dt).2)] := Hold.news H9 Hsp
      clear H9
      clear Hsp
      obtain ⟨_, R29⟩ : ∃ F, Kd.R u8 wsp F xs_ ((dwD A.1 A.2 b dt).1) := Hold.row H10 11 rfl
      refine r (fld Try.underlying49 rfl Try.underlying40 rfl rfl rfl) (r (ln Try.underlying40 rfl (R29)) (r (bi rfl rfl rfl) (re ?_)))
      refine cp rfl (fun h0 => ?_) (fun h0 => ?_)
      · have hN : ¬ dwOk A.1 A.2 b dt := fun e => by
          rw [dwD_yes e] at h0
          dsimp only at h0
          have V := VD.of e.1
          have h1 := V.len
          have h2 := V.one
          omega
        have hW := dwD_no hN
        have H11 : Hold w [] wsp [rR u8 5 am1 A.1, rR kW 112 cm1 A.2, rT zm1 dt, rB g5 49 ([am2, cm2]), rT v9 (nums8 (mkS dt)), rR u8 5 xi ([] : List Int), rR kW 112 yi ([] : List Wr), rB g8 49 ([xi, yi]), rR u8 5 am2 A.1, rR kW 112 cm2 A.2, rT zm2 dt, rR u8 5 xs_ ([] : List Int), rR kW 112 ys_ ([] : List Wr)] := (by rw [hW] at H10; exact H10)
        clear H10
        have b30 : B wsp g8 49 ([xi, yi]) := Hold.blk H11 7 rfl
        obtain ⟨_, R31⟩ : ∃ F, Kd.R u8 wsp F xi ([] : List Int) := Hold.row H11 5 rfl
        refine sq (rg (r (fa Try.underlying49 rfl ti40 rfl z8) (r (ldb Try.underlying40 rfl rfl b30 rfl) (r (ln Try.underlying40 rfl (R31)) (r (bi rfl rfl rfl) (r (mv rfl) ?_))))))
        refine spf 52 rfl (show (decide ((([] : List Int).length : Int) = 0)) = true from (by simp)) ?_
        obtain ⟨_, R32⟩ : ∃ F, Kd.R kW wsp F yi ([] : List Wr) := Hold.row H11 6 rfl
        refine gy rfl rfl rfl (r (fa Try.underlying49 rfl ti47 rfl z8) (gy rfl rfl rfl (r (ldb Try.underlying47 rfl rfl b30 rfl) (gy rfl rfl rfl (r (ln Try.underlying47 rfl (R32)) (gy rfl rfl rfl (r (bi rfl rfl rfl) (r (pk rfl rfl) (r (mv rfl) ?_)))))))))
        refine spf 58 rfl (show (decide ((([] : List Wr).length : Int) = 0)) = true from (by simp)) ?_
        refine gy rfl rfl rfl (r (lab [xi, yi] Try.underlying49 rfl ti49 z8 b30 rfl rfl) (gy rfl rfl rfl (r (mv z6) (gy rfl rfl rfl (cl go79 (impl_DiskRead R31 R32 (by simp) (by simp) (by simp) (b := b)) (ac rfl (ac rfl an)) ?_)))))
        rintro rr wr ⟨e, Hr⟩
        have H12 : Hold w [] wr [rR u8 5 am1 A.1, rR kW 112 cm1 A.2, rT zm1 dt, rB g5 49 ([am2, cm2]), rT v9 (nums8 (mkS dt)), rR u8 5 xi ([] : List Int), rR kW 112 yi ([] : List Wr), rB g8 49 ([xi, yi]), rR u8 5 am2 A.1, rR kW 112 cm2 A.2, rT zm2 dt, rR u8 5 xs_ ([] : List Int), rR kW 112 ys_ ([] : List Wr), rR u8 e rr (drD ([] : List Int) ([] : List Wr) b)] := Hold.news H11 Hr
        clear H11
        clear Hr
        obtain ⟨_, R34⟩ : ∃ F, Kd.R u8 wr F rr (drD ([] : List Int) ([] : List Wr) b) := Hold.row H12 13 rfl
        refine gy rfl rfl rfl (r (ln Try.underlying40 rfl (R34)) (gy rfl rfl rfl (r (bi rfl rfl rfl) (r (pk rfl rfl) (r (sa rfl) (re (rt ?_)))))))
        exact fin1 (v := .bool (decide (((drD ([] : List Int) ([] : List Wr) b).length : Int) = 0))) Try.results21 rfl ⟨congrArg Value.bool (by rw [drD_nil]; simp), Hold.ch H12⟩
      · have hok : dwOk A.1 A.2 b dt := Decidable.byContradiction fun hn => h0 (by rw [dwD_no hn]; simp)
        have L := DkLaw.of hok
        have hW := dwD_yes hok
        have hnW := L.V.num
        have hlpW : (A.2 ++ [(b, dt)]).length ≤ 2000000 := by omega
        have lxxW : ∀ x, x ∈ A.2 ++ [(b, dt)] → x.2.length ≤ 1000000000 := fun x hx => by rw [L.V.h64 x hx]; omega
        obtain ⟨lxB, hlpB, lxxB⟩ := (dbD_sm (xs := A.1) (ps := A.2 ++ [(b, dt)])).sw
        obtain ⟨PW, hPW⟩ : ∃ PW, PW = A.2 ++ [(b, dt)] := ⟨_, rfl⟩
        rw [← hPW] at hW hlpW lxxW lxB hlpB lxxB
        have hbn := L.bn
        have hlA := L.V.len
        have htA := L.V.top
        have H11 : Hold w [] wsp [rR u8 5 am1 A.1, rR kW 112 cm1 A.2, rT zm1 dt, rB g5 49 ([am2, cm2]), rT v9 (nums8 (mkS dt)), rR u8 5 xi A.1, rR kW 112 yi PW, rB g8 49 ([xi, yi]), rR u8 5 am2 A.1, rR kW 112 cm2 A.2, rT zm2 dt, rR u8 5 xs_ A.1, rR kW 112 ys_ PW] := (by rw [hW] at H10; exact H10)
        clear H10
        have b30 : B wsp g8 49 ([xi, yi]) := Hold.blk H11 7 rfl
        obtain ⟨_, R32⟩ : ∃ F, Kd.R u8 wsp F xi A.1 := Hold.row H11 5 rfl
        obtain ⟨_, R33⟩ : ∃ F, Kd.R kW wsp F yi PW := Hold.row H11 6 rfl
        refine sk (sq (rg (r (lab [xi, yi] Try.underlying49 rfl ti49 z8 b30 rfl rfl) (cl go85 (impl_DiskBarrier R32 R33 lx hlpW lxxW) (ac rfl an) ?_))))
        rintro rB wB ⟨xb, yb, rfl, HB⟩
        have H12 : Hold w [] wB [rR u8 5 am1 A.1, rR kW 112 cm1 A.2, rT zm1 dt, rB g5 49 ([am2, cm2]), rT v9 (nums8 (mkS dt)), rR u8 5 xi A.1, rR kW 112 yi PW, rB g8 49 ([xi, yi]), rR u8 5 am2 A.1, rR kW 112 cm2 A.2, rT zm2 dt, rR u8 5 xs_ A.1, rR kW 112 ys_ PW, rR u8 5 xb ((dbD A.1 PW).1), rR kW 112 yb ((dbD A.1 PW).2)] := Hold.news H11 HB
        clear H11
        clear HB
        refine r (mv z1) (cl go88 (lwChoices (i := 0) (hy.t (Hold.ch H12)) lu oky (by omega)) (ac rfl (ac rfl an)) ?_)
        rintro rc wc ⟨cs, hcs, Hcs⟩
        have H13 : Hold w [] wc [rR u8 5 am1 A.1, rR kW 112 cm1 A.2, rT zm1 dt, rB g5 49 ([am2, cm2]), rT v9 (nums8 (mkS dt)), rR u8 5 xi A.1, rR kW 112 yi PW, rB g8 49 ([xi, yi]), rR u8 5 am2 A.1, rR kW 112 cm2 A.2, rT zm2 dt, rR u8 5 xs_ A.1, rR kW 112 ys_ PW, rR u8 5 xb ((dbD A.1 PW).1), rR kW 112 yb ((dbD A.1 PW).2), rR i64 2 rc cs] := Hold.news H12 Hcs
        clear H12
        clear Hcs
        obtain ⟨_, R36⟩ : ∃ F, Kd.R u8 wc F xb ((dbD A.1 PW).1) := Hold.row H13 13 rfl
        obtain ⟨_, R37⟩ : ∃ F, Kd.R kW wc F yb ((dbD A.1 PW).2) := Hold.row H13 14 rfl
        obtain ⟨_, R38⟩ : ∃ F, Kd.R i64 wc F rc cs := Hold.row H13 15 rfl
        refine cl go87 (impl_DiskCrash R36 R37 lxB hlpB lxxB R38 (by omega)) (ac rfl (ac rfl an)) ?_
        rintro rC wC ⟨xc, yc, rfl, HC⟩
        obtain ⟨lxC, hlpC, lxxC⟩ := (dcD_sm (xs := (dbD A.1 PW).1) (ps := (dbD A.1 PW).2) (cs := cs)).sw
        have H14 : Hold w [] wC [rR u8 5 am1 A.1, rR kW 112 cm1 A.2, rT zm1 dt, rB g5 49 ([am2, cm2]), rT v9 (nums8 (mkS dt)), rR u8 5 xi A.1, rR kW 112 yi PW, rB g8 49 ([xi, yi]), rR u8 5 am2 A.1, rR kW 112 cm2 A.2, rT zm2 dt, rR u8 5 xs_ A.1, rR kW 112 ys_ PW, rR u8 5 xb ((dbD A.1 PW).1), rR kW 112 yb ((dbD A.1 PW).2), rR i64 2 rc cs, rR u8 5 xc ((dcD (dbD A.1 PW).1 (dbD A.1 PW).2 cs).1), rR kW 112 yc ((dcD (dbD A.1 PW).1 (dbD A.1 PW).2 cs).2)] := Hold.news H13 HC
        clear H13
        clear HC
        refine ef (xal ti49) ?_
        rintro _ w39 ⟨g9, e39, rfl, -, b39, c39⟩
        have H15 : Hold w [] w39 [rR u8 5 am1 A.1, rR kW 112 cm1 A.2, rT zm1 dt, rB g5 49 ([am2, cm2]), rT v9 (nums8 (mkS dt)), rR u8 5 xi A.1, rR kW 112 yi PW, rB g8 49 ([xi, yi]), rR u8 5 am2 A.1, rR kW 112 cm2 A.2, rT zm2 dt, rR u8 5 xs_ A.1, rR kW 112 ys_ PW, rR u8 5 xb ((dbD A.1 PW).1), rR kW 112 yb ((dbD A.1 PW).2), rR i64 2 rc cs, rR u8 5 xc ((dcD (dbD A.1 PW).1 (dbD A.1 PW).2 cs).1), rR kW 112 yc ((dcD (dbD A.1 PW).1 (dbD A.1 PW).2 cs).2), rB g9 49 ([.slice none 0 0, .slice none 0 0])] := Hold.newB H14 e39 b39 c39
        clear H14
        clear e39 b39 c39
        have b40 : B w39 g9 49 ([.slice none 0 0, .slice none 0 0]) := Hold.blk H15 18 rfl
        obtain ⟨_, R42⟩ : ∃ F, Kd.R kW w39 F yc ((dcD (dbD A.1 PW).1 (dbD A.1 PW).2 cs).2) := Hold.row H15 17 rfl
        obtain ⟨_, R43⟩ : ∃ F, Kd.R u8 w39 F xc ((dcD (dbD A.1 PW).1 (dbD A.1 PW).2 cs).1) := Hold.row H15 16 rfl
        refine ef0 (xst (vs := [xc, yc]) ti49 rfl rfl rfl b40 rfl (Nat.le_of_ble_eq_true rfl) (oc (R43).oneCell (oc (R42).oneCell on))) ?_
        rintro w41 ⟨-, b41, c41⟩
        have H16 : Hold w [] w41 [rR u8 5 am1 A.1, rR kW 112 cm1 A.2, rT zm1 dt, rB g5 49 ([am2, cm2]), rT v9 (nums8 (mkS dt)), rR u8 5 xi A.1, rR kW 112 yi PW, rB g8 49 ([xi, yi]), rR u8 5 am2 A.1, rR kW 112 cm2 A.2, rT zm2 dt, rR u8 5 xs_ A.1, rR kW 112 ys_ PW, rR u8 5 xb ((dbD A.1 PW).1), rR kW 112 yb ((dbD A.1 PW).2), rR i64 2 rc cs, rR u8 5 xc ((dcD (dbD A.1 PW).1 (dbD A.1 PW).2 cs).1), rR kW 112 yc ((dcD (dbD A.1 PW).1 (dbD A.1 PW).2 cs).2), rB g9 49 ([xc, yc])] := Hold.setB H15 18 rfl b41 c41 rfl
        clear H15
        clear b41 c41
        refine re (sq (sq ?_))
        refine gen (fun ρ => ρ 1 = u ∧ ρ 4 = .bool false ∧ ρ 5 = .pointer (some ⟨g5, 0, none⟩) ∧ ρ 6 = .int .i64 b ∧ ρ 7 = zm2 ∧ ρ 8 = .pointer (some ⟨g8, 0, none⟩) ∧ ρ 9 = .pointer (some ⟨g9, 0, none⟩) ∧ True) ⟨z1, z4, z5, z6, z7, z8, rfl, trivial⟩ ?_
        rintro ρ ⟨z1, z4, z5, z6, z7, z8, z9, -⟩
        refine rde mixed ?_
        intro w44 c44
        have H17 : Hold w [] w44 [rR u8 5 am1 A.1, rR kW 112 cm1 A.2, rT zm1 dt, rB g5 49 ([am2, cm2]), rT v9 (nums8 (mkS dt)), rR u8 5 xi A.1, rR kW 112 yi PW, rB g8 49 ([xi, yi]), rR u8 5 am2 A.1, rR kW 112 cm2 A.2, rT zm2 dt, rR u8 5 xs_ A.1, rR kW 112 ys_ PW, rR u8 5 xb ((dbD A.1 PW).1), rR kW 112 yb ((dbD A.1 PW).2), rR i64 2 rc cs, rR u8 5 xc ((dcD (dbD A.1 PW).1 (dbD A.1 PW).2 cs).1), rR kW 112 yc ((dcD (dbD A.1 PW).1 (dbD A.1 PW).2 cs).2), rB g9 49 ([xc, yc])] := Hold.t H16 c44
        clear H16
        clear c44
        have H45d0 : Hold w44 [] w44 [] := Hold.start w44
        refine ⟨fun w' => Ch [] w44 w', Ch.refl _ _, ?_⟩
        have b46 : B w44 g9 49 ([xc, yc]) := Hold.blk H17 18 rfl
        obtain ⟨_, T47⟩ := Hold.text H17 10 rfl
        obtain ⟨_, R49⟩ : ∃ F, Kd.R u8 w44 F xc ((dcD (dbD A.1 PW).1 (dbD A.1 PW).2 cs).1) := Hold.row H17 16 rfl
        obtain ⟨_, R50⟩ : ∃ F, Kd.R kW w44 F yc ((dcD (dbD A.1 PW).1 (dbD A.1 PW).2 cs).2) := Hold.row H17 17 rfl
        refine edt 0 rfl (by kernel_rfl) (fun w' hS => lab [xc, yc] Try.underlying49 rfl ti49 z9 (hS.b0 b46) rfl rfl) (edt 1 rfl (by kernel_rfl) (fun w' hS => mv z6) (edt 4 rfl (by kernel_rfl) (fun w' hS => mv z7) (edt 5 rfl (by kernel_rfl) (fun w' hS => cvbs Try.underlying40 Try.underlying5 Try.underlying9 (T47.t hS) rfl) (ed1 2 (by kernel_rfl) <| euc rfl go79 (ac rfl (ac rfl an)) (impl_DiskRead (R49.t (Hold.ch H45d0)) (R50.t (Hold.ch H45d0)) lxC hlpC lxxC (b := b)) ?_))))
        rintro rd1 wr1 ⟨er1, Hr1⟩
        have H18d : Hold w44 [] wr1 [rR u8 er1 rd1 (drD (dcD (dbD A.1 PW).1 (dbD A.1 PW).2 cs).1 (dcD (dbD A.1 PW).1 (dbD A.1 PW).2 cs).2 b)] := Hold.news H45d0 Hr1
        clear H45d0
        clear Hr1
        refine ⟨.inr (Hold.ch H18d), ?_⟩
        obtain ⟨_, R51⟩ : ∃ F, Kd.R u8 wr1 F rd1 (drD (dcD (dbD A.1 PW).1 (dbD A.1 PW).2 cs).1 (dcD (dbD A.1 PW).1 (dbD A.1 PW).2 cs).2 b) := Hold.row H18d 0 rfl
        refine ed1 3 (by kernel_rfl) <| eur rfl (cvbs Try.underlying40 Try.underlying5 Try.underlying9 R51 rfl) (.inr (Hold.ch H18d)) (edt 6 rfl (by kernel_rfl) (fun w' hS => sne rfl rfl) (edt 7 rfl (by kernel_rfl) (fun w' hS => mv rfl) ?_))
        have eK1 : drD (dcD (dbD A.1 PW).1 (dbD A.1 PW).2 cs).1 (dcD (dbD A.1 PW).1 (dbD A.1 PW).2 cs).2 b = dt := by rw [hPW]; exact L.kept (by omega)
        have eK2 : drD A.1 PW b = dt := by rw [hPW]; exact L.read
        refine spfe 77 rfl (show (!decide (mkS (drD (dcD (dbD A.1 PW).1 (dbD A.1 PW).2 cs).1 (dcD (dbD A.1 PW).1 (dbD A.1 PW).2 cs).2 b) = mkS dt)) = false from (by rw [eK1, decide_eq_true rfl]; rfl)) ?_
        have b52 : B w44 g8 49 ([xi, yi]) := Hold.blk H17 7 rfl
        obtain ⟨_, T53⟩ := Hold.text H17 10 rfl
        obtain ⟨_, R55⟩ : ∃ F, Kd.R u8 w44 F xi A.1 := Hold.row H17 5 rfl
        obtain ⟨_, R56⟩ : ∃ F, Kd.R kW w44 F yi PW := Hold.row H17 6 rfl
        refine edty 8 rfl (by kernel_rfl) rfl rfl rfl (fun w' hS => lab [xi, yi] Try.underlying49 rfl ti49 z8 (hS.b0 b52) rfl rfl) (edty 9 rfl (by kernel_rfl) rfl rfl rfl (fun w' hS => mv z6) (edty 12 rfl (by kernel_rfl) rfl rfl rfl (fun w' hS => mv z7) (edty 13 rfl (by kernel_rfl) rfl rfl rfl (fun w' hS => cvbs Try.underlying40 Try.underlying5 Try.underlying9 (T53.t hS) rfl) (ed1 10 (by kernel_rfl) <| eucg rfl rfl rfl rfl go79 (ac rfl (ac rfl an)) (impl_DiskRead (R55.t (Hold.ch H18d)) (R56.t (Hold.ch H18d)) lx hlpW lxxW (b := b)) ?_))))
        rintro rd2 wr2 ⟨er2, Hr2⟩
        have H19d : Hold w44 [] wr2 [rR u8 er1 rd1 (drD (dcD (dbD A.1 PW).1 (dbD A.1 PW).2 cs).1 (dcD (dbD A.1 PW).1 (dbD A.1 PW).2 cs).2 b), rR u8 er2 rd2 (drD A.1 PW b)] := Hold.news H18d Hr2
        clear H18d
        clear Hr2
        refine ⟨.inr (Hold.ch H19d), ?_⟩
        obtain ⟨_, R57⟩ : ∃ F, Kd.R u8 wr2 F rd2 (drD A.1 PW b) := Hold.row H19d 1 rfl
        refine ed1 11 (by kernel_rfl) <| eurg rfl rfl rfl rfl (cvbs Try.underlying40 Try.underlying5 Try.underlying9 R57 rfl) (.inr (Hold.ch H19d)) (edty 14 rfl (by kernel_rfl) rfl rfl rfl (fun w' hS => sne rfl rfl) ?_)
        have H20 : Hold w [] wr2 [rR u8 5 am1 A.1, rR kW 112 cm1 A.2, rT zm1 dt, rB g5 49 ([am2, cm2]), rT v9 (nums8 (mkS dt)), rR u8 5 xi A.1, rR kW 112 yi PW, rB g8 49 ([xi, yi]), rR u8 5 am2 A.1, rR kW 112 cm2 A.2, rT zm2 dt, rR u8 5 xs_ A.1, rR kW 112 ys_ PW, rR u8 5 xb ((dbD A.1 PW).1), rR kW 112 yb ((dbD A.1 PW).2), rR i64 2 rc cs, rR u8 5 xc ((dcD (dbD A.1 PW).1 (dbD A.1 PW).2 cs).1), rR kW 112 yc ((dcD (dbD A.1 PW).1 (dbD A.1 PW).2 cs).2), rB g9 49 ([xc, yc]), rR u8 er1 rd1 (drD (dcD (dbD A.1 PW).1 (dbD A.1 PW).2 cs).1 (dcD (dbD A.1 PW).1 (dbD A.1 PW).2 cs).2 b), rR u8 er2 rd2 (drD A.1 PW b)] := Hold.news H17 H19d
        clear H19d H17
        refine ed1 15 (by kernel_rfl) <| eur rfl (pk rfl rfl) (.inl (by kernel_rfl)) ?_
        refine edd (by kernel_rfl) ?_
        refine cf ((rfl : _ = Value.bool (!decide (mkS (drD A.1 PW b) = mkS dt))).trans (congrArg Value.bool (show (!decide (mkS (drD A.1 PW b) = mkS dt)) = false from (by rw [eK2, decide_eq_true rfl]; rfl)))) ?_
        have H21 : Hold w [] wr2 [rB g5 49 ([am2, cm2]), rR u8 5 am2 A.1, rR kW 112 cm2 A.2, rB g8 49 ([xi, yi]), rR u8 5 xi A.1, rR kW 112 yi PW] := (show Hold w [] wr2 ([rB g5 49 ([am2, cm2]), rR u8 5 am2 A.1, rR kW 112 cm2 A.2, rB g8 49 ([xi, yi]), rR u8 5 xi A.1, rR kW 112 yi PW] ++ [rR u8 5 am1 A.1, rR kW 112 cm1 A.2, rT zm1 dt, rT v9 (nums8 (mkS dt)), rT zm2 dt, rR u8 5 xs_ A.1, rR kW 112 ys_ PW, rR u8 5 xb ((dbD A.1 PW).1), rR kW 112 yb ((dbD A.1 PW).2), rR i64 2 rc cs, rR u8 5 xc ((dcD (dbD A.1 PW).1 (dbD A.1 PW).2 cs).1), rR kW 112 yc ((dcD (dbD A.1 PW).1 (dbD A.1 PW).2 cs).2), rB g9 49 ([xc, yc]), rR u8 er1 rd1 (drD (dcD (dbD A.1 PW).1 (dbD A.1 PW).2 cs).1 (dcD (dbD A.1 PW).1 (dbD A.1 PW).2 cs).2 b), rR u8 er2 rd2 (drD A.1 PW b)]) from Hold.re H20 [3, 8, 9, 7, 5, 6, 0, 1, 2, 4, 10, 11, 12, 13, 14, 15, 16, 17, 18, 19, 20] (by kernel_rfl) (by rfl)).drop
        clear H20
        refine sk (sq ?_)
        refine gen (fun ρ => ρ 1 = u ∧ ρ 4 = .bool false ∧ ρ 5 = .pointer (some ⟨g5, 0, none⟩) ∧ ρ 6 = .int .i64 b ∧ ρ 8 = .pointer (some ⟨g8, 0, none⟩) ∧ True) ⟨z1, z4, z5, z6, z8, trivial⟩ ?_
        rintro ρ ⟨z1, z4, z5, z6, z8, -⟩
        refine rde_cut (fun ρ w' => ∃ g10 : Nat, ∃ D3 : {D : Dsk // ∃ cs : List Int, cs.length = 9 ∧ D = dcD A.1 PW cs}, ∃ x3 : Value, ∃ y3 : Value, ρ 1 = u ∧ ρ 4 = .bool false ∧ ρ 5 = .pointer (some ⟨g5, 0, none⟩) ∧ ρ 6 = .int .i64 b ∧ ρ 10 = .pointer (some ⟨g10, 0, none⟩) ∧ Hold w [] w' [rB g5 49 ([am2, cm2]), rR u8 5 am2 A.1, rR kW 112 cm2 A.2, rB g10 49 ([x3, y3]), rR u8 5 x3 D3.1.1, rR kW 112 y3 D3.1.2]) mixed ?_ ?_
        · intro w59 c59
          have H22 : Hold w [] w59 [rB g5 49 ([am2, cm2]), rR u8 5 am2 A.1, rR kW 112 cm2 A.2, rB g8 49 ([xi, yi]), rR u8 5 xi A.1, rR kW 112 yi PW] := Hold.t H21 c59
          clear H21
          clear c59
          have H60d0 : Hold w59 [] w59 [] := Hold.start w59
          refine ⟨fun w' => Ch [] w59 w', Ch.refl _ _, ?_⟩
          have b61 : B w59 g8 49 ([xi, yi]) := Hold.blk H22 3 rfl
          refine edt 0 rfl (by kernel_rfl) (fun w' hS => lab [xi, yi] Try.underlying49 rfl ti49 z8 (hS.b0 b61) rfl rfl) (edt 1 rfl (by kernel_rfl) (fun w' hS => mv z1) ?_)
          refine ed2 2 4 (by kernel_rfl) ?_ ?_
          · refine euc rfl go88 (ac rfl (ac rfl an)) (lwChoices (i := 3) ((hy.t (Hold.ch H22)).t (Hold.ch H60d0)) lu oky (by omega)) ?_
            rintro rc2 wc2 ⟨cs2, hcs2, Hcs2⟩
            have H23d : Hold w59 [] wc2 [rR i64 2 rc2 cs2] := Hold.news H60d0 Hcs2
            clear H60d0
            clear Hcs2
            refine ⟨.inr (Hold.ch H23d), ?_⟩
            refine ed2 3 4 (by kernel_rfl) ?_ ?_
            · obtain ⟨_, R64⟩ : ∃ F, Kd.R u8 w59 F xi A.1 := Hold.row H22 4 rfl
              obtain ⟨_, R65⟩ : ∃ F, Kd.R kW w59 F yi PW := Hold.row H22 5 rfl
              obtain ⟨_, R66⟩ : ∃ F, Kd.R i64 wc2 F rc2 cs2 := Hold.row H23d 0 rfl
              refine euc rfl go87 (ac rfl (ac rfl an)) (impl_DiskCrash (R64.t (Hold.ch H23d)) (R65.t (Hold.ch H23d)) lx hlpW lxxW R66 (by omega)) ?_
              rintro rC2 wC2 ⟨x2, y2, rfl, HC2⟩
              have H24d : Hold w59 [] wC2 [rR i64 2 rc2 cs2, rR u8 5 x2 ((dcD A.1 PW cs2).1), rR kW 112 y2 ((dcD A.1 PW cs2).2)] := Hold.news H23d HC2
              clear H23d
              clear HC2
              refine ⟨.inr (Hold.ch H24d), ?_⟩
              refine ed1 4 (by kernel_rfl) <| euf rfl (xal ti49) ?_
              rintro _ w67 ⟨g10, e67, rfl, -, b67, c67⟩
              have H25d : Hold w59 [] w67 [rR i64 2 rc2 cs2, rR u8 5 x2 ((dcD A.1 PW cs2).1), rR kW 112 y2 ((dcD A.1 PW cs2).2), rB g10 49 ([.slice none 0 0, .slice none 0 0])] := Hold.newB H24d e67 b67 c67
              clear H24d
              clear e67 b67 c67
              refine ⟨.inr (Hold.ch H25d), ?_⟩
              have H26 : Hold w [] w67 [rB g5 49 ([am2, cm2]), rR u8 5 am2 A.1, rR kW 112 cm2 A.2, rB g8 49 ([xi, yi]), rR u8 5 xi A.1, rR kW 112 yi PW, rR i64 2 rc2 cs2, rR u8 5 x2 ((dcD A.1 PW cs2).1), rR kW 112 y2 ((dcD A.1 PW cs2).2), rB g10 49 ([.slice none 0 0, .slice none 0 0])] := Hold.news H22 H25d
              clear H25d H22
              have b68 : B w67 g10 49 ([.slice none 0 0, .slice none 0 0]) := Hold.blk H26 9 rfl
              obtain ⟨_, R70⟩ : ∃ F, Kd.R kW w67 F y2 ((dcD A.1 PW cs2).2) := Hold.row H26 8 rfl
              obtain ⟨_, R71⟩ : ∃ F, Kd.R u8 w67 F x2 ((dcD A.1 PW cs2).1) := Hold.row H26 7 rfl
              refine ed1 5 (by kernel_rfl) <| euf0 rfl (xst (vs := [x2, y2]) ti49 rfl rfl rfl b68 rfl (Nat.le_of_ble_eq_true rfl) (oc (R71).oneCell (oc (R70).oneCell on))) ?_
              rintro w69 ⟨-, b69, c69⟩
              have H27 : Hold w [] w69 [rB g5 49 ([am2, cm2]), rR u8 5 am2 A.1, rR kW 112 cm2 A.2, rB g8 49 ([xi, yi]), rR u8 5 xi A.1, rR kW 112 yi PW, rR i64 2 rc2 cs2, rR u8 5 x2 ((dcD A.1 PW cs2).1), rR kW 112 y2 ((dcD A.1 PW cs2).2), rB g10 49 ([x2, y2])] := Hold.setB H26 9 rfl b69 c69 rfl
              clear H26
              clear b69 c69
              refine ⟨.inl (by kernel_rfl), ?_⟩
              refine edd (by kernel_rfl) ?_
              have H28 : Hold w [] w69 [rB g5 49 ([am2, cm2]), rR u8 5 am2 A.1, rR kW 112 cm2 A.2, rB g10 49 ([x2, y2]), rR u8 5 x2 ((dcD A.1 PW cs2).1), rR kW 112 y2 ((dcD A.1 PW cs2).2)] := (show Hold w [] w69 ([rB g5 49 ([am2, cm2]), rR u8 5 am2 A.1, rR kW 112 cm2 A.2, rB g10 49 ([x2, y2]), rR u8 5 x2 ((dcD A.1 PW cs2).1), rR kW 112 y2 ((dcD A.1 PW cs2).2)] ++ [rB g8 49 ([xi, yi]), rR u8 5 xi A.1, rR kW 112 yi PW, rR i64 2 rc2 cs2]) from Hold.re H27 [0, 1, 2, 9, 7, 8, 3, 4, 5, 6] (by kernel_rfl) (by rfl)).drop
              clear H27
              exact ⟨g10, ⟨_, cs2, hcs2, rfl⟩, x2, y2, z1, z4, z5, z6, rfl, H28⟩
            · refine euf rfl (xal ti49) ?_
              rintro _ w63 ⟨g10, e63, rfl, -, b63, c63⟩
              have H24d : Hold w59 [] w63 [rR i64 2 rc2 cs2, rB g10 49 ([.slice none 0 0, .slice none 0 0])] := Hold.newB H23d e63 b63 c63
              clear H23d
              clear e63 b63 c63
              refine ⟨.inr (Hold.ch H24d), ?_⟩
              obtain ⟨_, R65⟩ : ∃ F, Kd.R u8 w59 F xi A.1 := Hold.row H22 4 rfl
              obtain ⟨_, R66⟩ : ∃ F, Kd.R kW w59 F yi PW := Hold.row H22 5 rfl
              obtain ⟨_, R67⟩ : ∃ F, Kd.R i64 w63 F rc2 cs2 := Hold.row H24d 0 rfl
              refine ed1 3 (by kernel_rfl) <| euc rfl go87 (ac rfl (ac rfl an)) (impl_DiskCrash (R65.t (Hold.ch H24d)) (R66.t (Hold.ch H24d)) lx hlpW lxxW R67 (by omega)) ?_
              rintro rC2 wC2 ⟨x2, y2, rfl, HC2⟩
              have H25d : Hold w59 [] wC2 [rR i64 2 rc2 cs2, rB g10 49 ([.slice none 0 0, .slice none 0 0]), rR u8 5 x2 ((dcD A.1 PW cs2).1), rR kW 112 y2 ((dcD A.1 PW cs2).2)] := Hold.news H24d HC2
              clear H24d
              clear HC2
              refine ⟨.inr (Hold.ch H25d), ?_⟩
              have H26 : Hold w [] wC2 [rB g5 49 ([am2, cm2]), rR u8 5 am2 A.1, rR kW 112 cm2 A.2, rB g8 49 ([xi, yi]), rR u8 5 xi A.1, rR kW 112 yi PW, rR i64 2 rc2 cs2, rB g10 49 ([.slice none 0 0, .slice none 0 0]), rR u8 5 x2 ((dcD A.1 PW cs2).1), rR kW 112 y2 ((dcD A.1 PW cs2).2)] := Hold.news H22 H25d
              clear H25d H22
              have b68 : B wC2 g10 49 ([.slice none 0 0, .slice none 0 0]) := Hold.blk H26 7 rfl
              obtain ⟨_, R70⟩ : ∃ F, Kd.R kW wC2 F y2 ((dcD A.1 PW cs2).2) := Hold.row H26 9 rfl
              obtain ⟨_, R71⟩ : ∃ F, Kd.R u8 wC2 F x2 ((dcD A.1 PW cs2).1) := Hold.row H26 8 rfl
              refine ed1 5 (by kernel_rfl) <| euf0 rfl (xst (vs := [x2, y2]) ti49 rfl rfl rfl b68 rfl (Nat.le_of_ble_eq_true rfl) (oc (R71).oneCell (oc (R70).oneCell on))) ?_
              rintro w69 ⟨-, b69, c69⟩
              have H27 : Hold w [] w69 [rB g5 49 ([am2, cm2]), rR u8 5 am2 A.1, rR kW 112 cm2 A.2, rB g8 49 ([xi, yi]), rR u8 5 xi A.1, rR kW 112 yi PW, rR i64 2 rc2 cs2, rB g10 49 ([x2, y2]), rR u8 5 x2 ((dcD A.1 PW cs2).1), rR kW 112 y2 ((dcD A.1 PW cs2).2)] := Hold.setB H26 7 rfl b69 c69 rfl
              clear H26
              clear b69 c69
              refine ⟨.inl (by kernel_rfl), ?_⟩
              refine edd (by kernel_rfl) ?_
              have H28 : Hold w [] w69 [rB g5 49 ([am2, cm2]), rR u8 5 am2 A.1, rR kW 112 cm2 A.2, rB g10 49 ([x2, y2]), rR u8 5 x2 ((dcD A.1 PW cs2).1), rR kW 112 y2 ((dcD A.1 PW cs2).2)] := (show Hold w [] w69 ([rB g5 49 ([am2, cm2]), rR u8 5 am2 A.1, rR kW 112 cm2 A.2, rB g10 49 ([x2, y2]), rR u8 5 x2 ((dcD A.1 PW cs2).1), rR kW 112 y2 ((dcD A.1 PW cs2).2)] ++ [rB g8 49 ([xi, yi]), rR u8 5 xi A.1, rR kW 112 yi PW, rR i64 2 rc2 cs2]) from Hold.re H27 [0, 1, 2, 7, 8, 9, 3, 4, 5, 6] (by kernel_rfl) (by rfl)).drop
              clear H27
              exact ⟨g10, ⟨_, cs2, hcs2, rfl⟩, x2, y2, z1, z4, z5, z6, rfl, H28⟩
          · refine euf rfl (xal ti49) ?_
            rintro _ w62 ⟨g10, e62, rfl, -, b62, c62⟩
            have H23d : Hold w59 [] w62 [rB g10 49 ([.slice none 0 0, .slice none 0 0])] := Hold.newB H60d0 e62 b62 c62
            clear H60d0
            clear e62 b62 c62
            refine ⟨.inr (Hold.ch H23d), ?_⟩
            refine ed1 2 (by kernel_rfl) <| euc rfl go88 (ac rfl (ac rfl an)) (lwChoices (i := 3) ((hy.t (Hold.ch H22)).t (Hold.ch H23d)) lu oky (by omega)) ?_
            rintro rc2 wc2 ⟨cs2, hcs2, Hcs2⟩
            have H24d : Hold w59 [] wc2 [rB g10 49 ([.slice none 0 0, .slice none 0 0]), rR i64 2 rc2 cs2] := Hold.news H23d Hcs2
            clear H23d
            clear Hcs2
            refine ⟨.inr (Hold.ch H24d), ?_⟩
            obtain ⟨_, R65⟩ : ∃ F, Kd.R u8 w59 F xi A.1 := Hold.row H22 4 rfl
            obtain ⟨_, R66⟩ : ∃ F, Kd.R kW w59 F yi PW := Hold.row H22 5 rfl
            obtain ⟨_, R67⟩ : ∃ F, Kd.R i64 wc2 F rc2 cs2 := Hold.row H24d 1 rfl
            refine ed1 3 (by kernel_rfl) <| euc rfl go87 (ac rfl (ac rfl an)) (impl_DiskCrash (R65.t (Hold.ch H24d)) (R66.t (Hold.ch H24d)) lx hlpW lxxW R67 (by omega)) ?_
            rintro rC2 wC2 ⟨x2, y2, rfl, HC2⟩
            have H25d : Hold w59 [] wC2 [rB g10 49 ([.slice none 0 0, .slice none 0 0]), rR i64 2 rc2 cs2, rR u8 5 x2 ((dcD A.1 PW cs2).1), rR kW 112 y2 ((dcD A.1 PW cs2).2)] := Hold.news H24d HC2
            clear H24d
            clear HC2
            refine ⟨.inr (Hold.ch H25d), ?_⟩
            have H26 : Hold w [] wC2 [rB g5 49 ([am2, cm2]), rR u8 5 am2 A.1, rR kW 112 cm2 A.2, rB g8 49 ([xi, yi]), rR u8 5 xi A.1, rR kW 112 yi PW, rB g10 49 ([.slice none 0 0, .slice none 0 0]), rR i64 2 rc2 cs2, rR u8 5 x2 ((dcD A.1 PW cs2).1), rR kW 112 y2 ((dcD A.1 PW cs2).2)] := Hold.news H22 H25d
            clear H25d H22
            have b68 : B wC2 g10 49 ([.slice none 0 0, .slice none 0 0]) := Hold.blk H26 6 rfl
            obtain ⟨_, R70⟩ : ∃ F, Kd.R kW wC2 F y2 ((dcD A.1 PW cs2).2) := Hold.row H26 9 rfl
            obtain ⟨_, R71⟩ : ∃ F, Kd.R u8 wC2 F x2 ((dcD A.1 PW cs2).1) := Hold.row H26 8 rfl
            refine ed1 5 (by kernel_rfl) <| euf0 rfl (xst (vs := [x2, y2]) ti49 rfl rfl rfl b68 rfl (Nat.le_of_ble_eq_true rfl) (oc (R71).oneCell (oc (R70).oneCell on))) ?_
            rintro w69 ⟨-, b69, c69⟩
            have H27 : Hold w [] w69 [rB g5 49 ([am2, cm2]), rR u8 5 am2 A.1, rR kW 112 cm2 A.2, rB g8 49 ([xi, yi]), rR u8 5 xi A.1, rR kW 112 yi PW, rB g10 49 ([x2, y2]), rR i64 2 rc2 cs2, rR u8 5 x2 ((dcD A.1 PW cs2).1), rR kW 112 y2 ((dcD A.1 PW cs2).2)] := Hold.setB H26 6 rfl b69 c69 rfl
            clear H26
            clear b69 c69
            refine ⟨.inl (by kernel_rfl), ?_⟩
            refine edd (by kernel_rfl) ?_
            have H28 : Hold w [] w69 [rB g5 49 ([am2, cm2]), rR u8 5 am2 A.1, rR kW 112 cm2 A.2, rB g10 49 ([x2, y2]), rR u8 5 x2 ((dcD A.1 PW cs2).1), rR kW 112 y2 ((dcD A.1 PW cs2).2)] := (show Hold w [] w69 ([rB g5 49 ([am2, cm2]), rR u8 5 am2 A.1, rR kW 112 cm2 A.2, rB g10 49 ([x2, y2]), rR u8 5 x2 ((dcD A.1 PW cs2).1), rR kW 112 y2 ((dcD A.1 PW cs2).2)] ++ [rB g8 49 ([xi, yi]), rR u8 5 xi A.1, rR kW 112 yi PW, rR i64 2 rc2 cs2]) from Hold.re H27 [0, 1, 2, 6, 8, 9, 3, 4, 5, 7] (by kernel_rfl) (by rfl)).drop
            clear H27
            exact ⟨g10, ⟨_, cs2, hcs2, rfl⟩, x2, y2, z1, z4, z5, z6, rfl, H28⟩
        rintro ρ w571 ⟨g10, D3, x3, y3, y1, y4, y5, y6, y10, H71⟩
        clear H21
        have b162 : B w571 g5 49 ([am2, cm2]) := Hold.blk H71 0 rfl
        obtain ⟨_, R163⟩ : ∃ F, Kd.R u8 w571 F am2 A.1 := Hold.row H71 1 rfl
        refine sq (rg (r (fa Try.underlying49 rfl ti40 rfl y5) (r (ldb Try.underlying40 rfl rfl b162 rfl) (r (ln Try.underlying40 rfl (R163)) (r (dv (a := (A.1.length : Int)) (b := 64) (blks A.1) rfl rfl (by rw [Int.tdiv_eq_ediv_of_nonneg (by omega)]; unfold blks; omega)) (r (sa rfl) (re (sq (sq (rg (r (sa rfl) (re (bl ?_)))))))))))))
        have hcalm : ∀ o : Int, 0 ≤ o → o < blks A.1 → o ≠ b → (∀ x, x ∈ A.2 → x.1 ≠ o) → drD D3.1.1 D3.1.2 o = drD A.1 A.2 o := fun o h0 hn hb hps => by
          obtain ⟨cs3, h9, e3⟩ := D3.2
          rw [e3, hPW]; exact L.calm (by omega) h0 hn hb hps
        have hend : D3.1.2 = [] ∧ D3.1.1.length = A.1.length := by
          obtain ⟨cs3, h9, e3⟩ := D3.2
          rw [e3, hPW]; exact L.end (by omega)
        obtain ⟨lx3, hlp3, lxx3⟩ : Sw D3.1 := by
          obtain ⟨cs3, h9, e3⟩ := D3.2
          rw [e3]; exact dcD_sm.sw
        refine lp (α := Nat) (fun o ρ w' => ρ 4 = .bool false ∧ ρ 5 = .pointer (some ⟨g5, 0, none⟩) ∧ ρ 6 = .int .i64 b ∧ ρ 10 = .pointer (some ⟨g10, 0, none⟩) ∧ ρ 11 = .int .i64 (blks A.1) ∧ ρ 12 = .int .i64 (o : Int) ∧ Hold w [] w' [rB g5 49 ([am2, cm2]), rR u8 5 am2 A.1, rR kW 112 cm2 A.2, rB g10 49 ([x3, y3]), rR u8 5 x3 D3.1.1, rR kW 112 y3 D3.1.2] ∧ o ≤ 40) (fun o => 40 - o) 0 ?_ ?_
        · exact ⟨y4, y5, y6, y10, rfl, rfl, H71, by omega⟩
        clear H71
        rintro o ρ w572 ⟨y4, y5, y6, y10, y11, y12, H72, ho⟩
        refine sq (sq (rg (r (mv y12) (r (mv y11) (r (bi rfl rfl rfl) (r (mv rfl) ?_))))))
        refine sp 97 rfl (fun h1 => ?_) (fun h1 => ?_)
        · refine gy rfl rfl rfl (r (mv y12) (gy rfl rfl rfl (r (bi rfl rfl rfl) (r (pk rfl rfl) (re ?_)))))
          refine cp rfl (fun h2 => ?_) (fun h2 => ?_)
          · refine sk (sq (bl (sq (rg (r (mv y12) (r (mv y6) (r (bi rfl rfl rfl) (r (sa rfl) (re (sq (sq ?_)))))))))))
            refine gen (fun ρ => ρ 4 = .bool false ∧ ρ 5 = .pointer (some ⟨g5, 0, none⟩) ∧ ρ 6 = .int .i64 b ∧ ρ 10 = .pointer (some ⟨g10, 0, none⟩) ∧ ρ 11 = .int .i64 (blks A.1) ∧ ρ 12 = .int .i64 (o : Int) ∧ ρ 13 = .bool (!decide ((o : Int) = b)) ∧ True) ⟨y4, y5, y6, y10, y11, y12, rfl, trivial⟩ ?_
            rintro ρ ⟨z4, z5, z6, z10, z11, z12, z13, -⟩
            refine rg (r (sa rfl) (re (bl ?_)))
            refine lp (α := Nat × Bool) (fun (i, cb) ρ w' => ρ 4 = .bool false ∧ ρ 5 = .pointer (some ⟨g5, 0, none⟩) ∧ ρ 6 = .int .i64 b ∧ ρ 10 = .pointer (some ⟨g10, 0, none⟩) ∧ ρ 11 = .int .i64 (blks A.1) ∧ ρ 12 = .int .i64 (o : Int) ∧ ρ 13 = .bool cb ∧ ρ 14 = .int .i64 (i : Int) ∧ Hold w [] w' [rB g5 49 ([am2, cm2]), rR u8 5 am2 A.1, rR kW 112 cm2 A.2, rB g10 49 ([x3, y3]), rR u8 5 x3 D3.1.1, rR kW 112 y3 D3.1.2] ∧ i ≤ A.2.length ∧ (cb = true → (o : Int) ≠ b ∧ ∀ x, x ∈ A.2.take i → x.1 ≠ (o : Int))) (fun (i, cb) => A.2.length - i) (0, !decide ((o : Int) = b)) ?_ ?_
            · exact ⟨z4, z5, z6, z10, z11, z12, z13, rfl, H72, ⟨by omega, fun h => ⟨by simpa using h, by simp⟩⟩⟩
            clear H72
            rintro ⟨i, cb⟩ ρ w573 ⟨y4, y5, y6, y10, y11, y12, y13, y14, H73, ⟨hi, hcb⟩⟩
            have b164 : B w573 g5 49 ([am2, cm2]) := Hold.blk H73 0 rfl
            obtain ⟨_, R165⟩ : ∃ F, Kd.R kW w573 F cm2 A.2 := Hold.row H73 2 rfl
            refine sq (sq (rg (r (mv y14) (r (fa Try.underlying49 rfl ti47 rfl y5) (r (ldb Try.underlying47 rfl rfl b164 rfl) (r (ln Try.underlying47 rfl (R165)) (r (bi rfl rfl rfl) (re ?_))))))))
            refine cp rfl (fun h3 => ?_) (fun h3 => ?_)
            · have hi' : i < A.2.length := by omega
              have hT : A.2.take (i + 1) = A.2.take i ++ [A.2[i]] := List.take_succ_eq_append_getElem hi'
              refine sk (sq (bl (sq (rg (r (fa Try.underlying49 rfl ti47 rfl y5) (r (ldb Try.underlying47 rfl rfl b164 rfl) (r (mv y14) ?_)))))))
              obtain ⟨c116_166, ad116_166, k116_166, e116_166, p116_166⟩ := Kd.R.place R165 i (by omega)
              obtain ⟨vd116_166, Fd116_166, Rd116_166, sd116_166, q116_166⟩ := wr_at p116_166
              refine r (ix (j := i) Try.underlying47 ti112 e116_166 rfl (by omega)) (r (fa' Try.underlying112 rfl ti2 rfl rfl) (r (ld Try.underlying2 rfl rfl (q116_166 0 _ rfl)) (r (mv y12) (r (bi rfl rfl rfl) (re ?_)))))
              refine cp rfl (fun h4 => ?_) (fun h4 => ?_)
              · refine gen (fun ρ => ρ 4 = .bool false ∧ ρ 5 = .pointer (some ⟨g5, 0, none⟩) ∧ ρ 6 = .int .i64 b ∧ ρ 10 = .pointer (some ⟨g10, 0, none⟩) ∧ ρ 11 = .int .i64 (blks A.1) ∧ ρ 12 = .int .i64 (o : Int) ∧ ρ 13 = .bool cb ∧ ρ 14 = .int .i64 (i : Int) ∧ True) ⟨y4, y5, y6, y10, y11, y12, y13, y14, trivial⟩ ?_
                rintro ρ ⟨z4, z5, z6, z10, z11, z12, z13, z14, -⟩
                refine rg (r (sa rfl) (re (be (rg (r (mv z14) (r (ad (a := (i : Int)) (b := 1) ((i : Int) + 1) rfl rfl (by omega)) (r (sa rfl) (re ?_))))))))
                exact ag (i + 1, false) ⟨z4, z5, z6, z10, z11, z12, rfl, rfl, H73, ⟨by omega, fun h => by cases h⟩⟩ (by first | omega | (dsimp only; omega))
              · refine sk (be ?_)
                refine gen (fun ρ => ρ 4 = .bool false ∧ ρ 5 = .pointer (some ⟨g5, 0, none⟩) ∧ ρ 6 = .int .i64 b ∧ ρ 10 = .pointer (some ⟨g10, 0, none⟩) ∧ ρ 11 = .int .i64 (blks A.1) ∧ ρ 12 = .int .i64 (o : Int) ∧ ρ 13 = .bool cb ∧ ρ 14 = .int .i64 (i : Int) ∧ True) ⟨y4, y5, y6, y10, y11, y12, y13, y14, trivial⟩ ?_
                rintro ρ ⟨z4, z5, z6, z10, z11, z12, z13, z14, -⟩
                refine rg (r (mv z14) (r (ad (a := (i : Int)) (b := 1) ((i : Int) + 1) rfl rfl (by omega)) (r (sa rfl) (re ?_))))
                exact ag (i + 1, cb) ⟨z4, z5, z6, z10, z11, z12, z13, rfl, H73, ⟨by omega, fun h => ⟨(hcb h).1, fun x hx => by rw [hT] at hx; exact (List.mem_append.1 hx).elim ((hcb h).2 x) (fun e => by rw [List.mem_singleton.1 e]; exact h4)⟩⟩⟩ (by first | omega | (dsimp only; omega))
            · obtain rfl : i = A.2.length := by omega
              rw [List.take_length] at hcb
              refine ex rfl (sq ?_)
              refine rde mixed ?_
              intro w166 c166
              have H74 : Hold w [] w166 [rB g5 49 ([am2, cm2]), rR u8 5 am2 A.1, rR kW 112 cm2 A.2, rB g10 49 ([x3, y3]), rR u8 5 x3 D3.1.1, rR kW 112 y3 D3.1.2] := Hold.t H73 c166
              clear H73
              clear c166
              have H167d0 : Hold w166 [] w166 [] := Hold.start w166
              refine ⟨fun w' => Ch [] w166 w', Ch.refl _ _, ?_⟩
              refine edt 0 rfl (by kernel_rfl) (fun w' hS => mv y13) (edt 1 rfl (by kernel_rfl) (fun w' hS => mv rfl) ?_)
              refine spbe 122 rfl (fun hc => ?_) (fun hc => ?_)
              · obtain ⟨hob, hop⟩ := hcb hc
                have eR := hcalm (o : Int) (by omega) (by omega) hob hop
                have b168 : B w166 g10 49 ([x3, y3]) := Hold.blk H74 3 rfl
                have b169 : B w166 g5 49 ([am2, cm2]) := Hold.blk H74 0 rfl
                obtain ⟨_, R171⟩ : ∃ F, Kd.R u8 w166 F x3 D3.1.1 := Hold.row H74 4 rfl
                obtain ⟨_, R172⟩ : ∃ F, Kd.R kW w166 F y3 D3.1.2 := Hold.row H74 5 rfl
                refine edty 2 rfl (by kernel_rfl) rfl rfl rfl (fun w' hS => lab [x3, y3] Try.underlying49 rfl ti49 y10 (hS.b0 b168) rfl rfl) (edty 3 rfl (by kernel_rfl) rfl rfl rfl (fun w' hS => mv y12) (edty 6 rfl (by kernel_rfl) rfl rfl rfl (fun w' hS => lab [am2, cm2] Try.underlying49 rfl ti49 y5 (hS.b0 b169) rfl rfl) (edty 7 rfl (by kernel_rfl) rfl rfl rfl (fun w' hS => mv y12) (ed1 4 (by kernel_rfl) <| eucg rfl rfl rfl rfl go79 (ac rfl (ac rfl an)) (impl_DiskRead (R171.t (Hold.ch H167d0)) (R172.t (Hold.ch H167d0)) lx3 hlp3 lxx3 (b := (o : Int))) ?_))))
                rintro rd3 wr3 ⟨er3, Hr3⟩
                have H75d : Hold w166 [] wr3 [rR u8 er3 rd3 (drD D3.1.1 D3.1.2 (o : Int))] := Hold.news H167d0 Hr3
                clear H167d0
                clear Hr3
                refine ⟨.inr (Hold.ch H75d), ?_⟩
                refine ed2 5 8 (by kernel_rfl) ?_ ?_
                · obtain ⟨_, R173⟩ : ∃ F, Kd.R u8 wr3 F rd3 (drD D3.1.1 D3.1.2 (o : Int)) := Hold.row H75d 0 rfl
                  obtain ⟨_, R175⟩ : ∃ F, Kd.R u8 w166 F am2 A.1 := Hold.row H74 1 rfl
                  obtain ⟨_, R176⟩ : ∃ F, Kd.R kW w166 F cm2 A.2 := Hold.row H74 2 rfl
                  refine eurg rfl rfl rfl rfl (cvbs Try.underlying40 Try.underlying5 Try.underlying9 R173 rfl) (.inr (Hold.ch H75d)) (ed1 8 (by kernel_rfl) <| eucg rfl rfl rfl rfl go78 (ac rfl (ac rfl an)) (spec_DiskRead (R175.t (Hold.ch H75d)) (R176.t (Hold.ch H75d)) lx hlp lxx (b := (o : Int))) ?_)
                  rintro rd4 wr4 ⟨er4, Hr4⟩
                  have H76d : Hold w166 [] wr4 [rR u8 er3 rd3 (drD D3.1.1 D3.1.2 (o : Int)), rR u8 er4 rd4 (drD A.1 A.2 (o : Int))] := Hold.news H75d Hr4
                  clear H75d
                  clear Hr4
                  refine ⟨.inr (Hold.ch H76d), ?_⟩
                  obtain ⟨_, R177⟩ : ∃ F, Kd.R u8 wr4 F rd4 (drD A.1 A.2 (o : Int)) := Hold.row H76d 1 rfl
                  refine ed1 9 (by kernel_rfl) <| eurg rfl rfl rfl rfl (cvbs Try.underlying40 Try.underlying5 Try.underlying9 R177 rfl) (.inr (Hold.ch H76d)) (edty 10 rfl (by kernel_rfl) rfl rfl rfl (fun w' hS => sne rfl rfl) ?_)
                  have H77 : Hold w [] wr4 [rB g5 49 ([am2, cm2]), rR u8 5 am2 A.1, rR kW 112 cm2 A.2, rB g10 49 ([x3, y3]), rR u8 5 x3 D3.1.1, rR kW 112 y3 D3.1.2, rR u8 er3 rd3 (drD D3.1.1 D3.1.2 (o : Int)), rR u8 er4 rd4 (drD A.1 A.2 (o : Int))] := Hold.news H74 H76d
                  clear H76d H74
                  refine ed1 11 (by kernel_rfl) <| eur rfl (pk rfl rfl) (.inl (by kernel_rfl)) ?_
                  refine edd (by kernel_rfl) ?_
                  refine cf ((rfl : _ = Value.bool (!decide (mkS (drD D3.1.1 D3.1.2 (o : Int)) = mkS (drD A.1 A.2 (o : Int))))).trans (congrArg Value.bool (show (!decide (mkS (drD D3.1.1 D3.1.2 (o : Int)) = mkS (drD A.1 A.2 (o : Int)))) = false from (by rw [eR, decide_eq_true rfl]; rfl)))) ?_
                  refine sk (be ?_)
                  refine gen (fun ρ => ρ 4 = .bool false ∧ ρ 5 = .pointer (some ⟨g5, 0, none⟩) ∧ ρ 6 = .int .i64 b ∧ ρ 10 = .pointer (some ⟨g10, 0, none⟩) ∧ ρ 11 = .int .i64 (blks A.1) ∧ ρ 12 = .int .i64 (o : Int) ∧ True) ⟨y4, y5, y6, y10, y11, y12, trivial⟩ ?_
                  rintro ρ ⟨z4, z5, z6, z10, z11, z12, -⟩
                  refine rg (r (mv z12) (r (ad (a := (o : Int)) (b := 1) ((o : Int) + 1) rfl rfl (by omega)) (r (sa rfl) (re ?_))))
                  have H78 : Hold w [] wr4 [rB g5 49 ([am2, cm2]), rR u8 5 am2 A.1, rR kW 112 cm2 A.2, rB g10 49 ([x3, y3]), rR u8 5 x3 D3.1.1, rR kW 112 y3 D3.1.2] := (show Hold w [] wr4 ([rB g5 49 ([am2, cm2]), rR u8 5 am2 A.1, rR kW 112 cm2 A.2, rB g10 49 ([x3, y3]), rR u8 5 x3 D3.1.1, rR kW 112 y3 D3.1.2] ++ [rR u8 er3 rd3 (drD D3.1.1 D3.1.2 (o : Int)), rR u8 er4 rd4 (drD A.1 A.2 (o : Int))]) from Hold.re H77 [0, 1, 2, 3, 4, 5, 6, 7] (by kernel_rfl) (by rfl)).drop
                  clear H77
                  exact ag (o + 1) ⟨z4, z5, z6, z10, z11, rfl, H78, by omega⟩ (by first | omega | (dsimp only; omega))
                · obtain ⟨_, R174⟩ : ∃ F, Kd.R u8 w166 F am2 A.1 := Hold.row H74 1 rfl
                  obtain ⟨_, R175⟩ : ∃ F, Kd.R kW w166 F cm2 A.2 := Hold.row H74 2 rfl
                  refine eucg rfl rfl rfl rfl go78 (ac rfl (ac rfl an)) (spec_DiskRead (R174.t (Hold.ch H75d)) (R175.t (Hold.ch H75d)) lx hlp lxx (b := (o : Int))) ?_
                  rintro rd4 wr4 ⟨er4, Hr4⟩
                  have H76d : Hold w166 [] wr4 [rR u8 er3 rd3 (drD D3.1.1 D3.1.2 (o : Int)), rR u8 er4 rd4 (drD A.1 A.2 (o : Int))] := Hold.news H75d Hr4
                  clear H75d
                  clear Hr4
                  refine ⟨.inr (Hold.ch H76d), ?_⟩
                  refine ed2 5 9 (by kernel_rfl) ?_ ?_
                  · obtain ⟨_, R176⟩ : ∃ F, Kd.R u8 wr4 F rd3 (drD D3.1.1 D3.1.2 (o : Int)) := Hold.row H76d 0 rfl
                    obtain ⟨_, R177⟩ : ∃ F, Kd.R u8 wr4 F rd4 (drD A.1 A.2 (o : Int)) := Hold.row H76d 1 rfl
                    refine eurg rfl rfl rfl rfl (cvbs Try.underlying40 Try.underlying5 Try.underlying9 R176 rfl) (.inr (Hold.ch H76d)) (ed1 9 (by kernel_rfl) <| eurg rfl rfl rfl rfl (cvbs Try.underlying40 Try.underlying5 Try.underlying9 R177 rfl) (.inr (Hold.ch H76d)) (edty 10 rfl (by kernel_rfl) rfl rfl rfl (fun w' hS => sne rfl rfl) ?_))
                    have H77 : Hold w [] wr4 [rB g5 49 ([am2, cm2]), rR u8 5 am2 A.1, rR kW 112 cm2 A.2, rB g10 49 ([x3, y3]), rR u8 5 x3 D3.1.1, rR kW 112 y3 D3.1.2, rR u8 er3 rd3 (drD D3.1.1 D3.1.2 (o : Int)), rR u8 er4 rd4 (drD A.1 A.2 (o : Int))] := Hold.news H74 H76d
                    clear H76d H74
                    refine ed1 11 (by kernel_rfl) <| eur rfl (pk rfl rfl) (.inl (by kernel_rfl)) ?_
                    refine edd (by kernel_rfl) ?_
                    refine cf ((rfl : _ = Value.bool (!decide (mkS (drD D3.1.1 D3.1.2 (o : Int)) = mkS (drD A.1 A.2 (o : Int))))).trans (congrArg Value.bool (show (!decide (mkS (drD D3.1.1 D3.1.2 (o : Int)) = mkS (drD A.1 A.2 (o : Int)))) = false from (by rw [eR, decide_eq_true rfl]; rfl)))) ?_
                    refine sk (be ?_)
                    refine gen (fun ρ => ρ 4 = .bool false ∧ ρ 5 = .pointer (some ⟨g5, 0, none⟩) ∧ ρ 6 = .int .i64 b ∧ ρ 10 = .pointer (some ⟨g10, 0, none⟩) ∧ ρ 11 = .int .i64 (blks A.1) ∧ ρ 12 = .int .i64 (o : Int) ∧ True) ⟨y4, y5, y6, y10, y11, y12, trivial⟩ ?_
                    rintro ρ ⟨z4, z5, z6, z10, z11, z12, -⟩
                    refine rg (r (mv z12) (r (ad (a := (o : Int)) (b := 1) ((o : Int) + 1) rfl rfl (by omega)) (r (sa rfl) (re ?_))))
                    have H78 : Hold w [] wr4 [rB g5 49 ([am2, cm2]), rR u8 5 am2 A.1, rR kW 112 cm2 A.2, rB g10 49 ([x3, y3]), rR u8 5 x3 D3.1.1, rR kW 112 y3 D3.1.2] := (show Hold w [] wr4 ([rB g5 49 ([am2, cm2]), rR u8 5 am2 A.1, rR kW 112 cm2 A.2, rB g10 49 ([x3, y3]), rR u8 5 x3 D3.1.1, rR kW 112 y3 D3.1.2] ++ [rR u8 er3 rd3 (drD D3.1.1 D3.1.2 (o : Int)), rR u8 er4 rd4 (drD A.1 A.2 (o : Int))]) from Hold.re H77 [0, 1, 2, 3, 4, 5, 6, 7] (by kernel_rfl) (by rfl)).drop
                    clear H77
                    exact ag (o + 1) ⟨z4, z5, z6, z10, z11, rfl, H78, by omega⟩ (by first | omega | (dsimp only; omega))
                  · obtain ⟨_, R176⟩ : ∃ F, Kd.R u8 wr4 F rd4 (drD A.1 A.2 (o : Int)) := Hold.row H76d 1 rfl
                    obtain ⟨_, R177⟩ : ∃ F, Kd.R u8 wr4 F rd3 (drD D3.1.1 D3.1.2 (o : Int)) := Hold.row H76d 0 rfl
                    refine eurg rfl rfl rfl rfl (cvbs Try.underlying40 Try.underlying5 Try.underlying9 R176 rfl) (.inr (Hold.ch H76d)) (ed1 5 (by kernel_rfl) <| eurg rfl rfl rfl rfl (cvbs Try.underlying40 Try.underlying5 Try.underlying9 R177 rfl) (.inr (Hold.ch H76d)) (edty 10 rfl (by kernel_rfl) rfl rfl rfl (fun w' hS => sne rfl rfl) ?_))
                    have H77 : Hold w [] wr4 [rB g5 49 ([am2, cm2]), rR u8 5 am2 A.1, rR kW 112 cm2 A.2, rB g10 49 ([x3, y3]), rR u8 5 x3 D3.1.1, rR kW 112 y3 D3.1.2, rR u8 er3 rd3 (drD D3.1.1 D3.1.2 (o : Int)), rR u8 er4 rd4 (drD A.1 A.2 (o : Int))] := Hold.news H74 H76d
                    clear H76d H74
                    refine ed1 11 (by kernel_rfl) <| eur rfl (pk rfl rfl) (.inl (by kernel_rfl)) ?_
                    refine edd (by kernel_rfl) ?_
                    refine cf ((rfl : _ = Value.bool (!decide (mkS (drD D3.1.1 D3.1.2 (o : Int)) = mkS (drD A.1 A.2 (o : Int))))).trans (congrArg Value.bool (show (!decide (mkS (drD D3.1.1 D3.1.2 (o : Int)) = mkS (drD A.1 A.2 (o : Int)))) = false from (by rw [eR, decide_eq_true rfl]; rfl)))) ?_
                    refine sk (be ?_)
                    refine gen (fun ρ => ρ 4 = .bool false ∧ ρ 5 = .pointer (some ⟨g5, 0, none⟩) ∧ ρ 6 = .int .i64 b ∧ ρ 10 = .pointer (some ⟨g10, 0, none⟩) ∧ ρ 11 = .int .i64 (blks A.1) ∧ ρ 12 = .int .i64 (o : Int) ∧ True) ⟨y4, y5, y6, y10, y11, y12, trivial⟩ ?_
                    rintro ρ ⟨z4, z5, z6, z10, z11, z12, -⟩
                    refine rg (r (mv z12) (r (ad (a := (o : Int)) (b := 1) ((o : Int) + 1) rfl rfl (by omega)) (r (sa rfl) (re ?_))))
                    have H78 : Hold w [] wr4 [rB g5 49 ([am2, cm2]), rR u8 5 am2 A.1, rR kW 112 cm2 A.2, rB g10 49 ([x3, y3]), rR u8 5 x3 D3.1.1, rR kW 112 y3 D3.1.2] := (show Hold w [] wr4 ([rB g5 49 ([am2, cm2]), rR u8 5 am2 A.1, rR kW 112 cm2 A.2, rB g10 49 ([x3, y3]), rR u8 5 x3 D3.1.1, rR kW 112 y3 D3.1.2] ++ [rR u8 er3 rd3 (drD D3.1.1 D3.1.2 (o : Int)), rR u8 er4 rd4 (drD A.1 A.2 (o : Int))]) from Hold.re H77 [0, 1, 2, 3, 4, 5, 6, 7] (by kernel_rfl) (by rfl)).drop
                    clear H77
                    exact ag (o + 1) ⟨z4, z5, z6, z10, z11, rfl, H78, by omega⟩ (by first | omega | (dsimp only; omega))
              · refine edtn 2 rfl (by kernel_rfl) rfl rfl rfl (edtn 3 rfl (by kernel_rfl) rfl rfl rfl (edtn 4 rfl (by kernel_rfl) rfl rfl rfl (edtn 5 rfl (by kernel_rfl) rfl rfl rfl (edtn 6 rfl (by kernel_rfl) rfl rfl rfl (edtn 7 rfl (by kernel_rfl) rfl rfl rfl (edtn 8 rfl (by kernel_rfl) rfl rfl rfl (edtn 9 rfl (by kernel_rfl) rfl rfl rfl (edtn 10 rfl (by kernel_rfl) rfl rfl rfl ?_))))))))
                have H75 : Hold w [] w166 [rB g5 49 ([am2, cm2]), rR u8 5 am2 A.1, rR kW 112 cm2 A.2, rB g10 49 ([x3, y3]), rR u8 5 x3 D3.1.1, rR kW 112 y3 D3.1.2] := Hold.news H74 H167d0
                clear H167d0 H74
                refine ed1 11 (by kernel_rfl) <| eur rfl (pk rfl rfl) (.inl (by kernel_rfl)) ?_
                refine edd (by kernel_rfl) ?_
                refine cf rfl (sk (be ?_))
                refine gen (fun ρ => ρ 4 = .bool false ∧ ρ 5 = .pointer (some ⟨g5, 0, none⟩) ∧ ρ 6 = .int .i64 b ∧ ρ 10 = .pointer (some ⟨g10, 0, none⟩) ∧ ρ 11 = .int .i64 (blks A.1) ∧ ρ 12 = .int .i64 (o : Int) ∧ True) ⟨y4, y5, y6, y10, y11, y12, trivial⟩ ?_
                rintro ρ ⟨z4, z5, z6, z10, z11, z12, -⟩
                refine rg (r (mv z12) (r (ad (a := (o : Int)) (b := 1) ((o : Int) + 1) rfl rfl (by omega)) (r (sa rfl) (re ?_))))
                exact ag (o + 1) ⟨z4, z5, z6, z10, z11, rfl, H75, by omega⟩ (by first | omega | (dsimp only; omega))
          · have b164 : B w572 g10 49 ([x3, y3]) := Hold.blk H72 3 rfl
            obtain ⟨_, R165⟩ : ∃ F, Kd.R kW w572 F y3 D3.1.2 := Hold.row H72 5 rfl
            refine ex rfl (sq (rg (r (fa Try.underlying49 rfl ti47 rfl y10) (r (ldb Try.underlying47 rfl rfl b164 rfl) (r (ln Try.underlying47 rfl (R165)) (r (bi rfl rfl rfl) (r (mv rfl) ?_)))))))
            refine spf 137 rfl (show (decide ((D3.1.2.length : Int) = 0)) = true from (decide_eq_true (by rw [hend.1]; rfl))) ?_
            obtain ⟨_, R166⟩ : ∃ F, Kd.R u8 w572 F x3 D3.1.1 := Hold.row H72 4 rfl
            have b167 : B w572 g5 49 ([am2, cm2]) := Hold.blk H72 0 rfl
            obtain ⟨_, R168⟩ : ∃ F, Kd.R u8 w572 F am2 A.1 := Hold.row H72 1 rfl
            refine gy rfl rfl rfl (r (fa Try.underlying49 rfl ti40 rfl y10) (gy rfl rfl rfl (r (ldb Try.underlying40 rfl rfl b164 rfl) (gy rfl rfl rfl (r (ln Try.underlying40 rfl (R166)) (gy rfl rfl rfl (r (fa Try.underlying49 rfl ti40 rfl y5) (gy rfl rfl rfl (r (ldb Try.underlying40 rfl rfl b167 rfl) (gy rfl rfl rfl (r (ln Try.underlying40 rfl (R168)) (gy rfl rfl rfl (r (bi rfl rfl rfl) (r (pk rfl rfl) (r (sa rfl) (re (rt ?_)))))))))))))))))
            exact fin1 (v := .bool (decide ((D3.1.1.length : Int) = (A.1.length : Int)))) Try.results21 rfl ⟨congrArg Value.bool (decide_eq_true (by rw [hend.2])), Hold.ch H72⟩
        · have b164 : B w572 g10 49 ([x3, y3]) := Hold.blk H72 3 rfl
          obtain ⟨_, R165⟩ : ∃ F, Kd.R kW w572 F y3 D3.1.2 := Hold.row H72 5 rfl
          refine gn rfl rfl rfl (gn rfl rfl rfl (r (pk rfl rfl) (re (cf rfl (ex rfl (sq (rg (r (fa Try.underlying49 rfl ti47 rfl y10) (r (ldb Try.underlying47 rfl rfl b164 rfl) (r (ln Try.underlying47 rfl (R165)) (r (bi rfl rfl rfl) (r (mv rfl) ?_))))))))))))
          refine spf 137 rfl (show (decide ((D3.1.2.length : Int) = 0)) = true from (decide_eq_true (by rw [hend.1]; rfl))) ?_
          obtain ⟨_, R166⟩ : ∃ F, Kd.R u8 w572 F x3 D3.1.1 := Hold.row H72 4 rfl
          have b167 : B w572 g5 49 ([am2, cm2]) := Hold.blk H72 0 rfl
          obtain ⟨_, R168⟩ : ∃ F, Kd.R u8 w572 F am2 A.1 := Hold.row H72 1 rfl
          refine gy rfl rfl rfl (r (fa Try.underlying49 rfl ti40 rfl y10) (gy rfl rfl rfl (r (ldb Try.underlying40 rfl rfl b164 rfl) (gy rfl rfl rfl (r (ln Try.underlying40 rfl (R166)) (gy rfl rfl rfl (r (fa Try.underlying49 rfl ti40 rfl y5) (gy rfl rfl rfl (r (ldb Try.underlying40 rfl rfl b167 rfl) (gy rfl rfl rfl (r (ln Try.underlying40 rfl (R168)) (gy rfl rfl rfl (r (bi rfl rfl rfl) (r (pk rfl rfl) (r (sa rfl) (re (rt ?_)))))))))))))))))
          exact fin1 (v := .bool (decide ((D3.1.1.length : Int) = (A.1.length : Int)))) Try.results21 rfl ⟨congrArg Value.bool (decide_eq_true (by rw [hend.2])), Hold.ch H72⟩
end Go.Proofs.Ytgpcanjmgdmdhaa
