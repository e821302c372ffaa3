/-
  CONTRACTS 36: the platter: a disk's bytes, the writes that wait, where the youngest of each block stands. No condition.
-/
import Derived.Test.Ytgpcanjmgdmdhaa13
import Derived.Test.YtgpcanjmgdmdhaaMap
namespace Go.Proofs.Ytgpcanjmgdmdhaa
open Go Go.Eng
set_option maxRecDepth 100000
set_option maxHeartbeats 4000000
set_option linter.unusedVariables false
set_option linter.unusedSimpArgs false
abbrev Wr := Int × List Int
/-- Where the youngest write to each block stands. -/
def yngS (s : (Int → Option Int) × Int) (x : Wr) : (Int → Option Int) × Int := (fset s.1 x.1 s.2, s.2 + 1)
def yngP (ps : List Wr) : (Int → Option Int) × Int := ps.foldl yngS (fun _ => none, 0)
def yng (ps : List Wr) : Int → Option Int := (yngP ps).1
theorem yngP_2 (ps : List Wr) : (yngP ps).2 = ps.length := by
  have : ∀ (ps : List Wr) (s : (Int → Option Int) × Int), (ps.foldl yngS s).2 = s.2 + ps.length := by
    intro ps
    induction ps with
    | nil => intro s; simp
    | cons x ps ih => intro s; rw [List.foldl_cons, ih]; simp only [yngS, List.length_cons]; omega
  rw [yngP, this]; simp
theorem yng_nil : yng [] = fun _ => none := rfl
theorem yng_app (ps : List Wr) (x : Wr) : yng (ps ++ [x]) = fset (yng ps) x.1 ps.length := by
  simp only [yng, yngP, List.foldl_append, List.foldl_cons, List.foldl_nil]
  show fset (yngP ps).1 x.1 (yngP ps).2 = _
  rw [yngP_2]; rfl
/-- A block as it is read: the last write to it, or the bytes below. -/
def readS (b : Int) (acc : List Int) (x : Wr) : List Int := if x.1 = b then x.2 else acc
def readD (xs : List Int) (ps : List Wr) (b : Int) : List Int := ps.foldl (readS b) ((xs.take (b.toNat * 64 + 64)).drop (b.toNat * 64))
theorem readD_app (xs : List Int) (ps : List Wr) (x : Wr) (b : Int) : readD xs (ps ++ [x]) b = if x.1 = b then x.2 else readD xs ps b := by
  simp [readD, List.foldl_append, readS]
theorem rev_ind {p : List Wr → Prop} (h0 : p []) (h1 : ∀ ps x, p ps → p (ps ++ [x])) (ps : List Wr) : p ps := by
  have : ∀ n, ∀ ps : List Wr, ps.length = n → p ps := by
    intro n
    induction n with
    | zero => intro ps h; rw [List.eq_nil_of_length_eq_zero h]; exact h0
    | succ n ih =>
      intro ps h
      have hne : ps ≠ [] := fun e => by simp [e] at h
      rw [← List.dropLast_concat_getLast hne]
      exact h1 _ _ (ih _ (by simp; omega))
  exact this _ ps rfl
theorem yng_read (xs : List Int) (b : Int) (ps : List Wr) : (yng ps b = none → readD xs ps b = (xs.take (b.toNat * 64 + 64)).drop (b.toNat * 64)) ∧ ∀ k, yng ps b = some k → ∃ (i : Nat) (hi : i < ps.length), k = i ∧ ps[i].1 = b ∧ readD xs ps b = ps[i].2 := by
  induction ps using rev_ind with
  | h0 => exact ⟨fun _ => rfl, fun k h => by simp [yng_nil] at h⟩
  | h1 ps x ih =>
    rw [yng_app, readD_app]
    simp only [fset]
    by_cases hx : b = x.1
    · subst hx
      simp only [if_true]
      refine ⟨fun h => by simp at h, fun k h => ⟨ps.length, by simp, by simpa using h.symm, by simp, by simp⟩⟩
    · have hx' : ¬ x.1 = b := fun e => hx e.symm
      simp only [hx, hx', if_false]
      refine ⟨ih.1, fun k h => ?_⟩
      obtain ⟨i, hi, h1, h2, h3⟩ := ih.2 k h
      exact ⟨i, by simp; omega, h1, by rw [List.getElem_append_left hi]; exact h2, by rw [List.getElem_append_left hi]; exact h3⟩
theorem clone {w : World} {F : List Nat} {v : Value} {xs : List Int} (hx : u8.R w F v xs) (lx : xs.length ≤ 1000000000) : Ret Try.prog 154 #[v] w (fun r w' => Hold w [] w' [rR u8 5 r xs]) := by
  obtain ⟨A, c, rfl, hc⟩ := hx.cap
  refine enter Try.func154 rfl Try.ntmps154 (by rfl) (by rfl) ?_
  have H0 : Hold w [] w [] := Hold.start w
  refine sq (rg (r (sa rfl) (re (sq (sq (rg (r (mv rfl) (r (snl Try.underlying40 rfl) (re ?_)))))))))
  refine cd rfl (fun hA => ?_) (fun hA => ?_)
  · obtain rfl : A = none := by simpa using hA
    obtain rfl : xs = [] := by
      by_cases hz : 0 < xs.length
      · obtain ⟨_, _, e⟩ := Kd.R.adr hx hz; cases e
      · exact List.eq_nil_of_length_eq_zero (by omega)
    have H1 : Hold w [] w [rR u8 5 (.slice none 0 0) ([])] := Hold.nilrow u8 5 H0
    clear H0
    refine sq (rg (r (sa rfl) (re (rt ?_))))
    exact fin1 (v := .slice none 0 0) Try.results154 rfl H1
  · refine sk (sq (rg (ef (xbs0 (dk := u8) Try.underlying40 ti5) ?_)))
    rintro v1 w1 N1
    have H1 : Hold w [] w1 [rR u8 5 v1 ([])] := Hold.newr H0 N1
    clear H0
    obtain ⟨F3, P3, n3, s3, K3⟩ := Hold.pick H1 0 rfl
    replace P3 : Kd.W u8 5 w1 F3 v1 ([]) := P3
    refine r (mv rfl) (ef (aps Try.underlying40 ti5 rfl (flat_int _) rfl rfl P3 ((hx.t (Hold.ch H1))) n3 (by simp; omega)) ?_)
    rintro v7_2 w2 ⟨F2, A2⟩
    have H2 : Hold w [] w2 [rR u8 5 v7_2 ([] ++ xs)] := Hold.apd K3 P3 A2 rfl
    clear H1
    clear A2 K3 P3 n3 s3
    refine r (sa rfl) (re (rt ?_))
    have H3 : Hold w [] w2 [rR u8 5 v7_2 xs] := (by simpa using H2)
    clear H2
    exact fin1 (v := v7_2) Try.results154 rfl H3
theorem place {w : World} {F : List Nat} {g : Nat} {dv wv mq : Value} {xs : List Int} {b : Int} (hB : B w g 183 [dv, wv, mq]) (hx : u8.R w F dv xs) (lx : xs.length ≤ 1000000000) (hb : 0 ≤ b ∧ b.toNat * 64 + 64 ≤ xs.length) : Ret Try.prog 155 #[.pointer (some ⟨g, 0, none⟩), .int .i64 b] w (fun r w' => r = slv dv (b.toNat * 64) (b.toNat * 64 + 64) 1 ∧ Ch [] w w') := by
  refine enter Try.func155 rfl Try.ntmps155 (by rfl) (by rfl) ?_
  have H0 : Hold w [] w [] := Hold.start w
  refine sq (rg (r (sa rfl) (re (sq (rg (r (mv rfl) (r (nck rfl) (r (fa Try.underlying183 rfl ti40 rfl rfl) (r (ldb Try.underlying40 rfl rfl ((Hold.ch H0).b0 hB) rfl) (r (mv rfl) (r (ml (a := b) (b := 64) (((b.toNat * 64 : Nat) : Int)) rfl rfl (by omega)) (r (mv rfl) (r (ad (a := b) (b := 1) (b + 1) rfl rfl (by omega)) (r (ml (a := b + 1) (b := 64) (((b.toNat * 64 + 64 : Nat) : Int)) rfl rfl (by omega)) (r (slr (b.toNat * 64) (b.toNat * 64 + 64) Try.underlying40 ti5 (hx.t (Hold.ch H0)) rfl rfl rfl (by omega)) (r (sa rfl) (re (rt ?_))))))))))))))))))
  exact fin1 (v := slv dv (b.toNat * 64) (b.toNat * 64 + 64) 1) Try.results155 rfl ⟨rfl, Hold.ch H0⟩
theorem platter_read {w : World} {F G : List Nat} {g mg : Nat} {dv wv : Value} {xs : List Int} {ps : List Wr} {b : Int} (hB : B w g 183 [dv, wv, .map (some mg)]) (hM : MpI w mg (yng ps)) (hx : u8.R w F dv xs) (hp : kW.R w G wv ps) (lx : xs.length ≤ 1000000000) (hb : 0 ≤ b ∧ b.toNat * 64 + 64 ≤ xs.length) (ok : ∀ x, x ∈ ps → x.2.length = 64) :
    Ret Try.prog 132 #[.pointer (some ⟨g, 0, none⟩), .int .i64 b] w (fun r w' => r = .agg (byts (readD xs ps b)).toArray ∧ Ch [] w w') := by
  have hY := yng_read xs b ps
  refine enter Try.func132 rfl Try.ntmps132 (by rfl) (by rfl) ?_
  have H0 : Hold w [] w [] := Hold.start w
  rcases hy : yng ps b with _ | k
  · have e1 := hY.1 hy
    rw [e1]
    have l1 : ((xs.take (b.toNat * 64 + 64)).drop (b.toNat * 64)).length = 64 := by simp; omega
    refine sq (rg (ef (xal ti121) ?_))
    rintro _ w1 ⟨g4, e1, rfl, -, b1, c1⟩
    have H1 : Hold w [] w1 [rB g4 121 (byts (List.replicate 64 0))] := Hold.newB H0 e1 b1 c1
    clear H0
    clear e1 b1 c1
    refine re (sq (sq (rg (r (mv rfl) (r (nck rfl) (r (fa Try.underlying183 rfl ti181 rfl rfl) (r (ldb Try.underlying181 rfl rfl ((Hold.ch H1).b0 hB) rfl) (r (mv rfl) (r (Rn.cast (v' := .tuple #[.int .i64 0, .bool false]) (lkp Try.underlying181 Try.underlying2 ti3 rfl rfl (MpI.t (Hold.ch H1) hM)) (by simp [hy])) (r (mv rfl) (r (xt rfl rfl) (r (xt rfl rfl) (r (sa rfl) (r (sa rfl) (re (sq ?_))))))))))))))))
    refine gen (fun ρ => ρ 0 = .pointer (some ⟨g, 0, none⟩) ∧ ρ 1 = .int .i64 b ∧ ρ 4 = .pointer (some ⟨g4, 0, none⟩) ∧ ρ 5 = .int .i64 0 ∧ ρ 6 = .bool false ∧ True) ⟨rfl, rfl, rfl, rfl, rfl, trivial⟩ ?_
    rintro ρ ⟨z0, z1, z4, z5, z6, -⟩
    refine rg (r (mv z6) (re (cf rfl (sk (sq (rg (r (mv z0) (r (mv z1) (cl go155 (place ((Hold.ch H1).b0 hB) (hx.t (Hold.ch H1)) lx hb) (ac rfl (ac rfl an)) ?_)))))))))
    rintro r wp ⟨rfl, cp⟩
    have H2 : Hold w [] wp [rB g4 121 (byts (List.replicate 64 0))] := Hold.t H1 cp
    clear H1
    clear cp
    obtain ⟨F3, us3, R3⟩ := Kd.R.sl (hx.t (Hold.ch H2)) (b.toNat * 64) (b.toNat * 64 + 64) (by first | omega | (simp; omega)) (by first | omega | (simp; omega))
    have e3 : (xs.take (b.toNat * 64 + 64)).drop (b.toNat * 64) = (xs.take (b.toNat * 64 + 64)).drop (b.toNat * 64) := by first | (rw [List.take_length, List.drop_drop]; done) | (rw [List.drop_take]; done) | (simp; done) | (rw [List.take_length, List.drop_drop]; congr 1; omega)
    rw [e3] at R3
    obtain ⟨F5, us5, R5⟩ := Kd.R.sl (hx.t (Hold.ch H2)) (b.toNat * 64) (b.toNat * 64 + 64) (by first | omega | (simp; omega)) (by first | omega | (simp; omega))
    have e5 : (xs.take (b.toNat * 64 + 64)).drop (b.toNat * 64) = (xs.take (b.toNat * 64 + 64)).drop (b.toNat * 64) := by first | (rw [List.take_length, List.drop_drop]; done) | (rw [List.drop_take]; done) | (simp; done) | (rw [List.take_length, List.drop_drop]; congr 1; omega)
    rw [e5] at R5
    obtain ⟨ad4, c4, e4⟩ := Kd.R.adr R5 (by omega)
    obtain ⟨F6, us6, R6⟩ := Kd.R.sl (hx.t (Hold.ch H2)) (b.toNat * 64) (b.toNat * 64 + 64) (by first | omega | (simp; omega)) (by first | omega | (simp; omega))
    have e6 : (xs.take (b.toNat * 64 + 64)).drop (b.toNat * 64) = (xs.take (b.toNat * 64 + 64)).drop (b.toNat * 64) := by first | (rw [List.take_length, List.drop_drop]; done) | (rw [List.drop_take]; done) | (simp; done) | (rw [List.take_length, List.drop_drop]; congr 1; omega)
    rw [e6] at R6
    have b7 : B wp g4 121 (byts (List.replicate 64 0)) := Hold.blk H2 0 rfl
    refine r (s2a Try.underlying121 (e4) (by omega)) (r (lar Try.underlying121 ti121 e4 R6 (by omega) rfl) (ef0 (xsta ti121 z4 rfl (by simp; omega) b7 (by simp)) ?_))
    rintro w8 ⟨-, b8, c8⟩
    have H3 : Hold w [] w8 [rB g4 121 (byts (((xs.take (b.toNat * 64 + 64)).drop (b.toNat * 64)).take 64))] := Hold.setB H2 0 rfl b8 c8 rfl
    clear H2
    clear b8 c8
    refine re (rt ?_)
    have b9 : B w8 g4 121 (byts (((xs.take (b.toNat * 64 + 64)).drop (b.toNat * 64)).take 64)) := Hold.blk H3 0 rfl
    exact finc  (cs := byts (((xs.take (b.toNat * 64 + 64)).drop (b.toNat * 64)).take 64)) Try.results132 Try.underlying121 rfl ti121 z4 b9 (by first | (simp [byts]; done) | (simp [byts]; omega))  ⟨by rw [List.take_of_length_le (by omega)], Hold.ch H3⟩
  · obtain ⟨i, hi, rfl, hb1, hb2⟩ := hY.2 k hy
    rw [hb2]
    have hl := ok _ (List.getElem_mem hi)
    refine sq (rg (ef (xal ti121) ?_))
    rintro _ w1 ⟨g4, e1, rfl, -, b1, c1⟩
    have H1 : Hold w [] w1 [rB g4 121 (byts (List.replicate 64 0))] := Hold.newB H0 e1 b1 c1
    clear H0
    clear e1 b1 c1
    refine re (sq (sq (rg (r (mv rfl) (r (nck rfl) (r (fa Try.underlying183 rfl ti181 rfl rfl) (r (ldb Try.underlying181 rfl rfl ((Hold.ch H1).b0 hB) rfl) (r (mv rfl) (r (Rn.cast (v' := .tuple #[.int .i64 (i : Int), .bool true]) (lkp Try.underlying181 Try.underlying2 ti3 rfl rfl (MpI.t (Hold.ch H1) hM)) (by simp [hy])) (r (mv rfl) (r (xt rfl rfl) (r (xt rfl rfl) (r (sa rfl) (r (sa rfl) (re (sq ?_))))))))))))))))
    refine gen (fun ρ => ρ 0 = .pointer (some ⟨g, 0, none⟩) ∧ ρ 1 = .int .i64 b ∧ ρ 4 = .pointer (some ⟨g4, 0, none⟩) ∧ ρ 5 = .int .i64 (i : Int) ∧ ρ 6 = .bool true ∧ True) ⟨rfl, rfl, rfl, rfl, rfl, trivial⟩ ?_
    rintro ρ ⟨z0, z1, z4, z5, z6, -⟩
    refine rg (r (mv z6) (re (ct rfl (sq (rg (r (mv z0) (r (nck rfl) (r (fa Try.underlying183 rfl ti47 rfl rfl) (r (ldb Try.underlying47 rfl rfl ((Hold.ch H1).b0 hB) rfl) (r (mv z5) ?_))))))))))
    obtain ⟨c22_2, ad22_2, k22_2, e22_2, p22_2⟩ := Kd.R.place hp i (hi)
    obtain ⟨vd22_2, Fd22_2, Rd22_2, sd22_2, q22_2⟩ := wr_at p22_2
    obtain ⟨ad3, c3, e3⟩ := Kd.R.adr (Rd22_2.t (Hold.ch H1)) (by omega)
    have b4 : B w1 g4 121 (byts (List.replicate 64 0)) := Hold.blk H1 0 rfl
    refine r (ix (j := i) Try.underlying47 ti112 e22_2 rfl (hi)) (r (fa' Try.underlying112 rfl ti40 rfl rfl) (r (ld Try.underlying40 rfl rfl (Ch.cell (Hold.ch H1) (q22_2 1 _ rfl))) (r (s2a Try.underlying121 (e3) (by omega)) (r (lar Try.underlying121 ti121 e3 (Rd22_2.t (Hold.ch H1)) (by omega) rfl) (ef0 (xsta ti121 z4 rfl (by simp; omega) b4 (by simp)) ?_)))))
    rintro w5 ⟨-, b5, c5⟩
    have H2 : Hold w [] w5 [rB g4 121 (byts (((ps[i]).2).take 64))] := Hold.setB H1 0 rfl b5 c5 rfl
    clear H1
    clear b5 c5
    refine re (rt ?_)
    have b6 : B w5 g4 121 (byts (((ps[i]).2).take 64)) := Hold.blk H2 0 rfl
    exact finc  (cs := byts (((ps[i]).2).take 64)) Try.results132 Try.underlying121 rfl ti121 z4 b6 (by first | (simp [byts]; done) | (simp [byts]; omega))  ⟨by rw [List.take_of_length_le (by omega)], Hold.ch H2⟩
theorem platter_write {w : World} {F G : List Nat} {g mg : Nat} {dv wv sv : Value} {xs ys : List Int} {ps : List Wr} {b : Int} (h : Hs w [rB g 183 [dv, wv, .map (some mg)], rR u8 5 dv xs, rR kW 112 wv ps, rM mg (yng ps)] F) (nd : F.Nodup) (hy : u8.R w G sv ys) (hd : ∀ k, k ∈ G → k ∉ F) (ly : ys.length ≤ 1000000000) (hlp : ps.length ≤ 2000000) :
    Ret Try.prog 133 #[.pointer (some ⟨g, 0, none⟩), .int .i64 b, sv] w (fun r w' => ∃ wv', Hold w F w' [rB g 183 [dv, wv', .map (some mg)], rR u8 5 dv xs, rR kW 112 wv' (ps ++ [(b, ys)]), rM mg (yng (ps ++ [(b, ys)]))]) := by
  refine enter Try.func133 rfl Try.ntmps133 (by rfl) (by rfl) ?_
  have H0 : Hold w F w [rB g 183 ([dv, wv, .map (some mg)]), rR u8 5 dv xs, rR kW 112 wv ps, rM mg (yng ps)] := Hold.begin h nd
  refine sq ?_
  refine rde mixed ?_
  intro w1 c1
  have H1 : Hold w F w1 [rB g 183 ([dv, wv, .map (some mg)]), rR u8 5 dv xs, rR kW 112 wv ps, rM mg (yng ps)] := Hold.t H0 c1
  clear H0
  clear c1
  have H2d0 : Hold w1 [] w1 [] := Hold.start w1
  refine ⟨fun w' => Ch [] w1 w', Ch.refl _ _, ?_⟩
  have b3 : B w1 g 183 ([dv, wv, .map (some mg)]) := Hold.blk H1 0 rfl
  obtain ⟨_, R4⟩ : ∃ F, Kd.R kW w1 F wv ps := Hold.row H1 2 rfl
  have H2 : Hold w F w1 [rB g 183 ([dv, wv, .map (some mg)]), rR u8 5 dv xs, rR kW 112 wv ps, rM mg (yng ps)] := Hold.news H1 H2d0
  clear H2d0 H1
  have b5 : MpI w1 mg (yng ps) := Hold.mp H2 3 rfl
  refine edt 0 rfl (by kernel_rfl) (fun w' hS => mv rfl) (edt 1 rfl (by kernel_rfl) (fun w' hS => nck rfl) (edt 2 rfl (by kernel_rfl) (fun w' hS => fa Try.underlying183 rfl ti181 rfl rfl) (edt 3 rfl (by kernel_rfl) (fun w' hS => ldb Try.underlying181 rfl rfl (hS.b0 b3) rfl) (edt 4 rfl (by kernel_rfl) (fun w' hS => mv rfl) (edt 5 rfl (by kernel_rfl) (fun w' hS => mv rfl) (edt 6 rfl (by kernel_rfl) (fun w' hS => nck rfl) (edt 7 rfl (by kernel_rfl) (fun w' hS => fa Try.underlying183 rfl ti47 rfl rfl) (edt 8 rfl (by kernel_rfl) (fun w' hS => ldb Try.underlying47 rfl rfl (hS.b0 b3) rfl) (edt 9 rfl (by kernel_rfl) (fun w' hS => ln Try.underlying47 rfl ((R4.t hS))) (ed1 10 (by kernel_rfl) <| euf0 rfl (xmu Try.underlying181 Try.underlying2 rfl rfl rfl b5) ?_))))))))))
  rintro w6 ⟨b6, c6⟩
  have H3 : Hold w F w6 [rB g 183 ([dv, wv, .map (some mg)]), rR u8 5 dv xs, rR kW 112 wv ps, rM mg (fset (yng ps) b (ps.length : Int))] := Hold.setM H2 3 rfl b6 c6 rfl
  clear H2
  clear b6 c6
  refine ⟨.inl (by kernel_rfl), ?_⟩
  refine edd (by kernel_rfl) ?_
  refine gen (fun ρ => ρ 0 = .pointer (some ⟨g, 0, none⟩) ∧ ρ 1 = .int .i64 b ∧ ρ 2 = sv ∧ True) ⟨rfl, rfl, rfl, trivial⟩ ?_
  rintro ρ ⟨z0, z1, z2, -⟩
  refine rde mixed ?_
  intro w7 c7
  have H4 : Hold w F w7 [rB g 183 ([dv, wv, .map (some mg)]), rR u8 5 dv xs, rR kW 112 wv ps, rM mg (fset (yng ps) b (ps.length : Int))] := Hold.t H3 c7
  clear H3
  clear c7
  have H5 : Hold w F w7 [rR kW 112 wv ps, rB g 183 ([dv, wv, .map (some mg)]), rR u8 5 dv xs, rM mg (fset (yng ps) b (ps.length : Int))] := Hold.re H4 [2, 0, 1, 3] (by rfl) (by rfl)
  clear H4
  obtain ⟨Fd8, hFd8, nd8, Kd8, Xd8, sd8⟩ := Hold.frontx (Γ := [rR kW 112 wv ps]) (Δ := [rB g 183 ([dv, wv, .map (some mg)]), rR u8 5 dv xs, rM mg (fset (yng ps) b (ps.length : Int))]) H5
  have H8d0 : Hold w7 Fd8 w7 [rR kW 112 wv ps] := Hold.begin hFd8 nd8
  refine ⟨fun w' => Ch Fd8 w7 w', Ch.refl _ _, ?_⟩
  obtain ⟨_, ⟨rfl, b9⟩, x9⟩ := Xd8 0 (rB g 183 ([dv, wv, .map (some mg)])) rfl
  refine edt 0 rfl (by kernel_rfl) (fun w' hS => mv z0) (edt 1 rfl (by kernel_rfl) (fun w' hS => mv z0) (edt 2 rfl (by kernel_rfl) (fun w' hS => nck rfl) (edt 3 rfl (by kernel_rfl) (fun w' hS => fa Try.underlying183 rfl ti47 rfl rfl) (edt 4 rfl (by kernel_rfl) (fun w' hS => ldb Try.underlying47 rfl rfl (hS.b b9 (x9 _ (by simp))) rfl) (edt 5 rfl (by kernel_rfl) (fun w' hS => mv z1) (edt 6 rfl (by kernel_rfl) (fun w' hS => mv z2) (ed1 7 (by kernel_rfl) <| euc rfl go154 (ac rfl an) (clone ((hy.tt (Hold.ch H5) hd).tt (Hold.ch H8d0) (dis_of hy.lt hd sd8)) ly) ?_)))))))
  rintro r3 wc Hc
  have H6d : Hold w7 Fd8 wc [rR kW 112 wv ps, rR u8 5 r3 ys] := Hold.news H8d0 Hc
  clear H8d0
  clear Hc
  refine ⟨.inr (Hold.ch H6d), ?_⟩
  obtain ⟨_, R11⟩ : ∃ F, Kd.R u8 wc F r3 ys := Hold.row H6d 1 rfl
  refine ed1 8 (by kernel_rfl) <| eur rfl (bd (r := [.int .i64 b, r3]) ti112 pl112 (pc rfl (cel1 rfl) (pc rfl (cel1 (R11).oneCell) pn)) rfl) (.inr (Hold.ch H6d)) (ed1 9 (by kernel_rfl) <| euf rfl (xbs1 (cs := [.int .i64 b, r3]) Try.underlying47 ti112 rfl rfl rfl rfl rfl) ?_)
  rintro _ w12 ⟨g25, e12, rfl, -, b12, c12⟩
  have H7d : Hold w7 Fd8 w12 [rR kW 112 wv ps, rR u8 5 r3 ys, rB g25 112 ([.int .i64 b, r3])] := Hold.newB H6d e12 b12 c12
  clear H6d
  clear e12 b12 c12
  refine ⟨.inr (Hold.ch H7d), ?_⟩
  have b14 : B w12 g25 112 ([.int .i64 b, r3]) := Hold.blk H7d 2 rfl
  obtain ⟨F15, hF15, n15, s15, K15⟩ := Hold.front (Γ := [rR kW 112 wv ps, rR u8 5 r3 ys]) (Δ := [rB g25 112 ([.int .i64 b, r3])]) H7d
  obtain ⟨Fa15, _, rfl, Wa15, Fb15, _, rfl, Wb15, rfl⟩ := hF15
  replace Wa15 : Kd.W kW 112 w12 Fa15 wv ps := Wa15
  replace Wb15 : Kd.W u8 5 w12 Fb15 r3 ys := Wb15
  refine ed1 10 (by kernel_rfl) <| euf rfl (xapb (ys := [(b, ys)]) (G := Fb15) Try.underlying47 ti112 rfl rfl rfl Wa15 b14 (els_one (R := Kd.O kW _) (show Kd.O kW _ _ (b, ys) _ from ⟨[], _, [_], [_], rfl, rfl, ⟨rfl, rfl⟩, _, rfl, Wb15⟩)) (by simpa using n15) (by simp; omega)) ?_
  rintro v26_13 w13 ⟨F13, A13⟩
  have H8d : Hold w7 Fd8 w13 [rR kW 112 v26_13 (ps ++ [(b, ys)]), rB g25 112 ([.int .i64 b, r3])] := Hold.apd2 K15 (by simp) Wa15 A13
  clear H7d
  refine ⟨.inr (Hold.ch H8d), ?_⟩
  have H9 : Hold w F w13 [rR kW 112 v26_13 (ps ++ [(b, ys)]), rB g25 112 ([.int .i64 b, r3]), rB g 183 ([dv, wv, .map (some mg)]), rR u8 5 dv xs, rM mg (fset (yng ps) b (ps.length : Int))] := Hold.call Kd8 H8d
  clear H8d H5
  have b16 : B w13 g 183 ([dv, wv, .map (some mg)]) := Hold.blk H9 2 rfl
  obtain ⟨_, R18⟩ : ∃ F, Kd.R kW w13 F v26_13 (ps ++ [(b, ys)]) := Hold.row H9 0 rfl
  refine edt 11 rfl (by kernel_rfl) (fun w' hS => nck rfl) (edt 12 rfl (by kernel_rfl) (fun w' hS => fa Try.underlying183 rfl ti47 rfl rfl) (ed1 13 (by kernel_rfl) <| euf0 rfl (xst (vs := [v26_13]) ti47 rfl rfl (cel1 (R18).oneCell) b16 rfl (Nat.le_of_ble_eq_true rfl) (ones1 (R18).oneCell)) ?_))
  rintro w17 ⟨-, b17, c17⟩
  have H10 : Hold w F w17 [rR kW 112 v26_13 (ps ++ [(b, ys)]), rB g25 112 ([.int .i64 b, r3]), rB g 183 ([dv, v26_13, .map (some mg)]), rR u8 5 dv xs, rM mg (fset (yng ps) b (ps.length : Int))] := Hold.setB H9 2 rfl b17 c17 rfl
  clear H9
  clear b17 c17
  refine ⟨.inl (by kernel_rfl), ?_⟩
  refine edd (by kernel_rfl) ?_
  have H11 : Hold w F w17 [rR kW 112 v26_13 (ps ++ [(b, ys)]), rB g25 112 ([.int .i64 b, r3]), rB g 183 ([dv, v26_13, .map (some mg)]), rR u8 5 dv xs, rM mg (yng (ps ++ [(b, ys)]))] := (by rw [yng_app]; exact H10)
  clear H10
  have H12 : Hold w F w17 [rB g 183 ([dv, v26_13, .map (some mg)]), rR u8 5 dv xs, rR kW 112 v26_13 (ps ++ [(b, ys)]), rM mg (yng (ps ++ [(b, ys)]))] := (show Hold w F w17 ([rB g 183 ([dv, v26_13, .map (some mg)]), rR u8 5 dv xs, rR kW 112 v26_13 (ps ++ [(b, ys)]), rM mg (yng (ps ++ [(b, ys)]))] ++ [rB g25 112 ([.int .i64 b, r3])]) from Hold.re H11 [2, 3, 0, 4, 1] (by rfl) (by rfl)).drop
  clear H11
  exact fin0 Try.results133 ⟨_, H12⟩
theorem spin {w : World} {F G : List Nat} {v u : Value} {xs : List Int} {ps : List Wr} (hx : u8.R w F v xs) (hp : kW.R w G u ps) (lx : xs.length ≤ 1000000000) (hlp : ps.length ≤ 2000000) (lxx : ∀ x, x ∈ ps → x.2.length ≤ 1000000000) : Ret Try.prog 131 #[.agg #[v, u]] w (fun r w' => ∃ g dv wv mg, r = .pointer (some ⟨g, 0, none⟩) ∧ Hold w [] w' [rB g 183 [dv, wv, .map (some mg)], rR u8 5 dv xs, rR kW 112 wv ps, rM mg (yng ps)]) := by
  refine enter Try.func131 rfl Try.ntmps131 (by rfl) (by rfl) ?_
  have H0 : Hold w [] w [] := Hold.start w
  refine sq (rg (ef (xbx (t := 49) rfl rfl) ?_))
  rintro _ w1 ⟨g1, e1, rfl, -, b1, c1⟩
  have H1 : Hold w [] w1 [rB g1 49 ([v, u])] := Hold.newB H0 e1 b1 c1
  clear H0
  clear e1 b1 c1
  have b2 : B w1 g1 49 ([v, u]) := Hold.blk H1 0 rfl
  refine r (sa rfl) (re (sq (rg (r (fa Try.underlying49 rfl ti40 rfl rfl) (r (ldb Try.underlying40 rfl rfl b2 rfl) (cl go154 (clone (hx.t (Hold.ch H1)) lx) (ac rfl an) ?_))))))
  rintro r3 wc Hc
  have H2 : Hold w [] wc [rB g1 49 ([v, u]), rR u8 5 r3 xs] := Hold.news H1 Hc
  clear H1
  clear Hc
  refine ef (xmm) ?_
  rintro _ w4 ⟨m9, e4, rfl, b4, c4⟩
  have H3 : Hold w [] w4 [rB g1 49 ([v, u]), rR u8 5 r3 xs, rM m9 (fun _ => none)] := Hold.newM H2 e4 b4 c4
  clear H2
  clear e4 b4 c4
  obtain ⟨_, R5⟩ : ∃ F, Kd.R u8 w4 F r3 xs := Hold.row H3 1 rfl
  refine r (bd (r := [r3, .slice none 0 0, .map (some m9)]) ti183 pl183 (pc rfl (cel1 (R5).oneCell) (pc rfl (cel1 rfl) pn)) rfl) (ef (xbx (t := 183) rfl rfl) ?_)
  rintro _ w6 ⟨g11, e6, rfl, -, b6, c6⟩
  have H4 : Hold w [] w6 [rB g1 49 ([v, u]), rR u8 5 r3 xs, rM m9 (fun _ => none), rB g11 183 ([r3, .slice none 0 0, .map (some m9)])] := Hold.newB H3 e6 b6 c6
  clear H3
  clear e6 b6 c6
  have b7 : B w6 g1 49 ([v, u]) := Hold.blk H4 0 rfl
  refine r (sa rfl) (re (sq (sq (rg (r (fa Try.underlying49 rfl ti47 rfl rfl) (r (ldb Try.underlying47 rfl rfl b7 rfl) (r (ln Try.underlying47 rfl ((hp.t (Hold.ch H4)))) (r (mv rfl) (re (bl ?_))))))))))
  have H5 : Hold w [] w6 [rB g1 49 ([v, u]), rR u8 5 r3 xs, rM m9 (fun _ => none), rB g11 183 ([r3, .slice none 0 0, .map (some m9)]), rR kW 112 (.slice none 0 0) ([])] := Hold.nilrow kW 112 H4
  clear H4
  have H6 : Hold w [] w6 [rB g11 183 ([r3, .slice none 0 0, .map (some m9)]), rR u8 5 r3 xs, rR kW 112 (.slice none 0 0) ([]), rM m9 (fun _ => none)] := (show Hold w [] w6 ([rB g11 183 ([r3, .slice none 0 0, .map (some m9)]), rR u8 5 r3 xs, rR kW 112 (.slice none 0 0) ([]), rM m9 (fun _ => none)] ++ [rB g1 49 ([v, u])]) from Hold.re H5 [3, 1, 4, 2, 0] (by rfl) (by rfl)).drop
  clear H5
  refine lp (α := Nat × Value) (fun (k, o) ρ w' => ρ 3 = .pointer (some ⟨g11, 0, none⟩) ∧ ρ 13 = u ∧ ρ 14 = .int .i64 (ps.length : Int) ∧ ρ 15 = .int .i64 (k : Int) ∧ Hold w [] w' [rB g11 183 ([r3, o, .map (some m9)]), rR u8 5 r3 xs, rR kW 112 o (ps.take k), rM m9 (yng (ps.take k))] ∧ k ≤ ps.length) (fun (k, o) => ps.length - k) (0, .slice none 0 0) ?_ ?_
  · exact ⟨rfl, rfl, rfl, rfl, H6, by omega⟩
  clear H6
  rintro ⟨k, o⟩ ρ w507 ⟨y3, y13, y14, y15, H7, hk⟩
  refine sq (rg (r (bi y15 y14 rfl) (re (sq ?_))))
  refine cp rfl (fun h => ?_) (fun h => ?_)
  · have hk' : k < ps.length := by omega
    have hl := lxx _ (List.getElem_mem hk')
    refine sk (sq (bl (sq (rg ?_))))
    obtain ⟨c17_8, ad17_8, k17_8, e17_8, p17_8⟩ := Kd.R.place hp k (by omega)
    obtain ⟨vd17_8, Fd17_8, Rd17_8, sd17_8, q17_8⟩ := wr_at p17_8
    refine r (ix (j := k) Try.underlying47 ti112 (y13.trans e17_8) y15 (by omega)) (r (la [.int .i64 ((ps[k]).1), vd17_8] Try.underlying112 rfl ti112 rfl rfl (fun m u h => (Ch.cell (Hold.ch H7) (q17_8 m u h)))) (ef (xal ti112) ?_))
    rintro _ w9 ⟨g5, e9, rfl, -, b9, c9⟩
    have H8 : Hold w [] w9 [rB g11 183 ([r3, o, .map (some m9)]), rR u8 5 r3 xs, rR kW 112 o (ps.take k), rM m9 (yng (ps.take k)), rB g5 112 ([.int .i64 0, .slice none 0 0])] := Hold.newB H7 e9 b9 c9
    clear H7
    clear e9 b9 c9
    have b10 : B w9 g5 112 ([.int .i64 0, .slice none 0 0]) := Hold.blk H8 4 rfl
    refine ef0 (xst (vs := [.int .i64 ((ps[k]).1), vd17_8]) ti112 rfl rfl rfl b10 rfl (Nat.le_of_ble_eq_true rfl) (oc rfl (oc ((Rd17_8.t (Hold.ch H8))).oneCell on))) ?_
    rintro w11 ⟨-, b11, c11⟩
    have H9 : Hold w [] w11 [rB g11 183 ([r3, o, .map (some m9)]), rR u8 5 r3 xs, rR kW 112 o (ps.take k), rM m9 (yng (ps.take k)), rB g5 112 ([.int .i64 ((ps[k]).1), vd17_8])] := Hold.setB H8 4 rfl b11 c11 rfl
    clear H8
    clear b11 c11
    have b12 : B w11 g5 112 ([.int .i64 ((ps[k]).1), vd17_8]) := Hold.blk H9 4 rfl
    obtain ⟨F13, hF13, n13, s13, K13⟩ := Hold.front (Γ := [rB g11 183 ([r3, o, .map (some m9)]), rR u8 5 r3 xs, rR kW 112 o (ps.take k), rM m9 (yng (ps.take k))]) (Δ := [rB g5 112 ([.int .i64 ((ps[k]).1), vd17_8])]) H9
    refine re (rg (r (mv y3) (r (fa Try.underlying112 rfl ti2 rfl rfl) (r (ldb Try.underlying2 rfl rfl b12 rfl) (r (fa Try.underlying112 rfl ti40 rfl rfl) (r (ldb Try.underlying40 rfl rfl b12 rfl) (cl go133 (platter_write (b := ps[k].1) hF13 n13 (Rd17_8.t (Hold.ch H9)) (dis_of0 Rd17_8.lt s13) hl (by simp; omega)) (ac rfl (ac rfl (ac rfl an))) ?_)))))))
    rintro _ ww ⟨wv', Hw⟩
    have H10 : Hold w [] ww [rB g11 183 ([r3, wv', .map (some m9)]), rR u8 5 r3 xs, rR kW 112 wv' (ps.take k ++ [(ps[k].1, ps[k].2)]), rM m9 (yng (ps.take k ++ [(ps[k].1, ps[k].2)])), rB g5 112 ([.int .i64 ((ps[k]).1), vd17_8])] := Hold.call K13 Hw
    clear H9
    clear K13 hF13 n13 s13
    clear Hw
    refine re (be ?_)
    refine gen (fun ρ => ρ 3 = .pointer (some ⟨g11, 0, none⟩) ∧ ρ 13 = u ∧ ρ 14 = .int .i64 (ps.length : Int) ∧ ρ 15 = .int .i64 (k : Int) ∧ True) ⟨y3, y13, y14, y15, trivial⟩ ?_
    rintro ρ ⟨z3, z13, z14, z15, -⟩
    refine rg (r (ad (a := (k : Int)) (b := 1) ((k : Int) + 1) z15 rfl (by omega)) (r (mv rfl) (re ?_)))
    have H11 : Hold w [] ww [rB g11 183 ([r3, wv', .map (some m9)]), rR u8 5 r3 xs, rR kW 112 wv' (ps.take k ++ [(ps[k].1, ps[k].2)]), rM m9 (yng (ps.take k ++ [(ps[k].1, ps[k].2)]))] := (show Hold w [] ww ([rB g11 183 ([r3, wv', .map (some m9)]), rR u8 5 r3 xs, rR kW 112 wv' (ps.take k ++ [(ps[k].1, ps[k].2)]), rM m9 (yng (ps.take k ++ [(ps[k].1, ps[k].2)]))] ++ [rB g5 112 ([.int .i64 ((ps[k]).1), vd17_8])]) from Hold.re H10 [0, 1, 2, 3, 4] (by rfl) (by rfl)).drop
    clear H10
    exact ag (k + 1, wv') ⟨z3, z13, z14, rfl, (by rw [List.take_succ_eq_append_getElem hk']; exact H11), by omega⟩ (by first | omega | (dsimp only; omega))
  · obtain rfl : k = ps.length := by omega
    refine ex rfl (sq (rg (r (mv y3) (r (sa rfl) (re (rt ?_))))))
    exact fin1 (v := .pointer (some ⟨g11, 0, none⟩)) Try.results131 rfl ⟨_, _, _, _, rfl, (by rw [List.take_length] at H7; exact H7)⟩
theorem platter_disk {w : World} {F G : List Nat} {g : Nat} {dv wv mq : Value} {xs : List Int} {ps : List Wr} (hB : B w g 183 [dv, wv, mq]) (hx : u8.R w F dv xs) (hp : kW.R w G wv ps) (lx : xs.length ≤ 1000000000) (hlp : ps.length ≤ 2000000) (lxx : ∀ x, x ∈ ps → x.2.length ≤ 1000000000) :
    Ret Try.prog 136 #[.pointer (some ⟨g, 0, none⟩)] w (fun r w' => ∃ v u, r = .agg #[v, u] ∧ Hold w [] w' [rR u8 5 v xs, rR kW 112 u ps]) := by
  refine enter Try.func136 rfl Try.ntmps136 (by rfl) (by rfl) ?_
  have H0 : Hold w [] w [] := Hold.start w
  refine sq (rg (ef (xal ti49) ?_))
  rintro _ w1 ⟨g2, e1, rfl, -, b1, c1⟩
  have H1 : Hold w [] w1 [rB g2 49 ([.slice none 0 0, .slice none 0 0])] := Hold.newB H0 e1 b1 c1
  clear H0
  clear e1 b1 c1
  refine re (sq (rg (r (mv rfl) (r (nck rfl) (r (fa Try.underlying183 rfl ti40 rfl rfl) (r (ldb Try.underlying40 rfl rfl ((Hold.ch H1).b0 hB) rfl) (cl go154 (clone (hx.t (Hold.ch H1)) lx) (ac rfl an) ?_)))))))
  rintro r3 wc Hc
  have H2 : Hold w [] wc [rB g2 49 ([.slice none 0 0, .slice none 0 0]), rR u8 5 r3 xs] := Hold.news H1 Hc
  clear H1
  clear Hc
  obtain ⟨_, R3⟩ : ∃ F, Kd.R u8 wc F r3 xs := Hold.row H2 1 rfl
  refine r (bd (r := [r3, .slice none 0 0]) ti49 pl49 (pc rfl (cel1 (R3).oneCell) pn) rfl) (ef (xal ti49) ?_)
  rintro _ w4 ⟨g3, e4, rfl, -, b4, c4⟩
  have H3 : Hold w [] w4 [rB g2 49 ([.slice none 0 0, .slice none 0 0]), rR u8 5 r3 xs, rB g3 49 ([.slice none 0 0, .slice none 0 0])] := Hold.newB H2 e4 b4 c4
  clear H2
  clear e4 b4 c4
  have b5 : B w4 g3 49 ([.slice none 0 0, .slice none 0 0]) := Hold.blk H3 2 rfl
  obtain ⟨_, R7⟩ : ∃ F, Kd.R u8 w4 F r3 xs := Hold.row H3 1 rfl
  refine ef0 (xst (vs := [r3, .slice none 0 0]) ti49 rfl rfl rfl b5 rfl (Nat.le_of_ble_eq_true rfl) (oc (R7).oneCell (oc rfl on))) ?_
  rintro w6 ⟨-, b6, c6⟩
  have H4 : Hold w [] w6 [rB g2 49 ([.slice none 0 0, .slice none 0 0]), rR u8 5 r3 xs, rB g3 49 ([r3, .slice none 0 0])] := Hold.setB H3 2 rfl b6 c6 rfl
  clear H3
  clear b6 c6
  refine re (sq (sq (rg (r (mv rfl) (r (nck rfl) (r (fa Try.underlying183 rfl ti47 rfl rfl) (r (ldb Try.underlying47 rfl rfl ((Hold.ch H4).b0 hB) rfl) (r (ln Try.underlying47 rfl ((hp.t (Hold.ch H4)))) (r (mv rfl) (re (bl ?_)))))))))))
  have H5 : Hold w [] w6 [rB g2 49 ([.slice none 0 0, .slice none 0 0]), rR u8 5 r3 xs, rB g3 49 ([r3, .slice none 0 0]), rR kW 112 (.slice none 0 0) ([])] := Hold.nilrow kW 112 H4
  clear H4
  have H6 : Hold w [] w6 [rB g2 49 ([.slice none 0 0, .slice none 0 0]), rB g3 49 ([r3, .slice none 0 0]), rR u8 5 r3 xs, rR kW 112 (.slice none 0 0) ([])] := Hold.re H5 [0, 2, 1, 3] (by rfl) (by rfl)
  clear H5
  refine lp (α := Nat × Value) (fun (k, o) ρ w' => ρ 2 = .pointer (some ⟨g2, 0, none⟩) ∧ ρ 3 = .pointer (some ⟨g3, 0, none⟩) ∧ ρ 15 = wv ∧ ρ 16 = .int .i64 (ps.length : Int) ∧ ρ 17 = .int .i64 (k : Int) ∧ Hold w [] w' [rB g2 49 ([.slice none 0 0, .slice none 0 0]), rB g3 49 ([r3, o]), rR u8 5 r3 xs, rR kW 112 o (ps.take k)] ∧ k ≤ ps.length) (fun (k, o) => ps.length - k) (0, .slice none 0 0) ?_ ?_
  · exact ⟨rfl, rfl, rfl, rfl, rfl, H6, by omega⟩
  clear H6
  rintro ⟨k, o⟩ ρ w507 ⟨y2, y3, y15, y16, y17, H7, hk⟩
  refine sq (rg (r (bi y17 y16 rfl) (re (sq ?_))))
  refine cp rfl (fun h => ?_) (fun h => ?_)
  · have hk' : k < ps.length := by omega
    have hl := lxx _ (List.getElem_mem hk')
    refine sk (sq (bl (sq (rg ?_))))
    obtain ⟨c19_8, ad19_8, k19_8, e19_8, p19_8⟩ := Kd.R.place hp k (by omega)
    obtain ⟨vd19_8, Fd19_8, Rd19_8, sd19_8, q19_8⟩ := wr_at p19_8
    refine r (ix (j := k) Try.underlying47 ti112 (y15.trans e19_8) y17 (by omega)) (r (la [.int .i64 ((ps[k]).1), vd19_8] Try.underlying112 rfl ti112 rfl rfl (fun m u h => (Ch.cell (Hold.ch H7) (q19_8 m u h)))) (ef (xal ti112) ?_))
    rintro _ w9 ⟨g5, e9, rfl, -, b9, c9⟩
    have H8 : Hold w [] w9 [rB g2 49 ([.slice none 0 0, .slice none 0 0]), rB g3 49 ([r3, o]), rR u8 5 r3 xs, rR kW 112 o (ps.take k), rB g5 112 ([.int .i64 0, .slice none 0 0])] := Hold.newB H7 e9 b9 c9
    clear H7
    clear e9 b9 c9
    have b10 : B w9 g5 112 ([.int .i64 0, .slice none 0 0]) := Hold.blk H8 4 rfl
    refine ef0 (xst (vs := [.int .i64 ((ps[k]).1), vd19_8]) ti112 rfl rfl rfl b10 rfl (Nat.le_of_ble_eq_true rfl) (oc rfl (oc ((Rd19_8.t (Hold.ch H8))).oneCell on))) ?_
    rintro w11 ⟨-, b11, c11⟩
    have H9 : Hold w [] w11 [rB g2 49 ([.slice none 0 0, .slice none 0 0]), rB g3 49 ([r3, o]), rR u8 5 r3 xs, rR kW 112 o (ps.take k), rB g5 112 ([.int .i64 ((ps[k]).1), vd19_8])] := Hold.setB H8 4 rfl b11 c11 rfl
    clear H8
    clear b11 c11
    refine re ?_
    refine rde mixed ?_
    intro w12 c12
    have H10 : Hold w [] w12 [rB g2 49 ([.slice none 0 0, .slice none 0 0]), rB g3 49 ([r3, o]), rR u8 5 r3 xs, rR kW 112 o (ps.take k), rB g5 112 ([.int .i64 ((ps[k]).1), vd19_8])] := Hold.t H9 c12
    clear H9
    clear c12
    have H11 : Hold w [] w12 [rR kW 112 o (ps.take k), rB g2 49 ([.slice none 0 0, .slice none 0 0]), rB g3 49 ([r3, o]), rR u8 5 r3 xs, rB g5 112 ([.int .i64 ((ps[k]).1), vd19_8])] := Hold.re H10 [3, 0, 1, 2, 4] (by rfl) (by rfl)
    clear H10
    obtain ⟨Fd13, hFd13, nd13, Kd13, Xd13, sd13⟩ := Hold.frontx (Γ := [rR kW 112 o (ps.take k)]) (Δ := [rB g2 49 ([.slice none 0 0, .slice none 0 0]), rB g3 49 ([r3, o]), rR u8 5 r3 xs, rB g5 112 ([.int .i64 ((ps[k]).1), vd19_8])]) H11
    have H13d0 : Hold w12 Fd13 w12 [rR kW 112 o (ps.take k)] := Hold.begin hFd13 nd13
    refine ⟨fun w' => Ch Fd13 w12 w', Ch.refl _ _, ?_⟩
    obtain ⟨_, ⟨rfl, b14⟩, x14⟩ := Xd13 1 (rB g3 49 ([r3, o])) rfl
    obtain ⟨_, ⟨rfl, b15⟩, x15⟩ := Xd13 3 (rB g5 112 ([.int .i64 ((ps[k]).1), vd19_8])) rfl
    refine edt 0 rfl (by kernel_rfl) (fun w' hS => fa Try.underlying49 rfl ti47 rfl y3) (edt 1 rfl (by kernel_rfl) (fun w' hS => ldb Try.underlying47 rfl rfl (hS.b b14 (x14 _ (by simp))) rfl) (edt 2 rfl (by kernel_rfl) (fun w' hS => fa Try.underlying112 rfl ti2 rfl rfl) (edt 3 rfl (by kernel_rfl) (fun w' hS => ldb Try.underlying2 rfl rfl (hS.b b15 (x15 _ (by simp))) rfl) (edt 4 rfl (by kernel_rfl) (fun w' hS => fa Try.underlying112 rfl ti40 rfl rfl) (edt 5 rfl (by kernel_rfl) (fun w' hS => ldb Try.underlying40 rfl rfl (hS.b b15 (x15 _ (by simp))) rfl) (ed1 6 (by kernel_rfl) <| euc rfl go154 (ac rfl an) (clone ((Rd19_8.t (Hold.ch H11)).tt (Hold.ch H13d0) (dis_of0 Rd19_8.lt sd13)) hl) ?_))))))
    rintro r4 wc2 Hc2
    have H12d : Hold w12 Fd13 wc2 [rR kW 112 o (ps.take k), rR u8 5 r4 (ps[k].2)] := Hold.news H13d0 Hc2
    clear H13d0
    clear Hc2
    refine ⟨.inr (Hold.ch H12d), ?_⟩
    obtain ⟨_, R17⟩ : ∃ F, Kd.R u8 wc2 F r4 (ps[k].2) := Hold.row H12d 1 rfl
    refine ed1 7 (by kernel_rfl) <| eur rfl (bd (r := [.int .i64 ((ps[k]).1), r4]) ti112 pl112 (pc rfl (cel1 rfl) (pc rfl (cel1 (R17).oneCell) pn)) rfl) (.inr (Hold.ch H12d)) (ed1 8 (by kernel_rfl) <| euf rfl (xbs1 (cs := [.int .i64 ((ps[k]).1), r4]) Try.underlying47 ti112 rfl rfl rfl rfl rfl) ?_)
    rintro _ w18 ⟨g29, e18, rfl, -, b18, c18⟩
    have H13d : Hold w12 Fd13 w18 [rR kW 112 o (ps.take k), rR u8 5 r4 (ps[k].2), rB g29 112 ([.int .i64 ((ps[k]).1), r4])] := Hold.newB H12d e18 b18 c18
    clear H12d
    clear e18 b18 c18
    refine ⟨.inr (Hold.ch H13d), ?_⟩
    have b20 : B w18 g29 112 ([.int .i64 ((ps[k]).1), r4]) := Hold.blk H13d 2 rfl
    obtain ⟨F21, hF21, n21, s21, K21⟩ := Hold.front (Γ := [rR kW 112 o (ps.take k), rR u8 5 r4 (ps[k].2)]) (Δ := [rB g29 112 ([.int .i64 ((ps[k]).1), r4])]) H13d
    obtain ⟨Fa21, _, rfl, Wa21, Fb21, _, rfl, Wb21, rfl⟩ := hF21
    replace Wa21 : Kd.W kW 112 w18 Fa21 o (ps.take k) := Wa21
    replace Wb21 : Kd.W u8 5 w18 Fb21 r4 (ps[k].2) := Wb21
    refine ed1 9 (by kernel_rfl) <| euf rfl (xapb (ys := [((ps[k]).1, ps[k].2)]) (G := Fb21) Try.underlying47 ti112 rfl rfl rfl Wa21 b20 (els_one (R := Kd.O kW _) (show Kd.O kW _ _ ((ps[k]).1, ps[k].2) _ from ⟨[], _, [_], [_], rfl, rfl, ⟨rfl, rfl⟩, _, rfl, Wb21⟩)) (by simpa using n21) (by simp; omega)) ?_
    rintro v30_19 w19 ⟨F19, A19⟩
    have H14d : Hold w12 Fd13 w19 [rR kW 112 v30_19 ((ps.take k) ++ [((ps[k]).1, ps[k].2)]), rB g29 112 ([.int .i64 ((ps[k]).1), r4])] := Hold.apd2 K21 (by simp) Wa21 A19
    clear H13d
    refine ⟨.inr (Hold.ch H14d), ?_⟩
    have H15 : Hold w [] w19 [rR kW 112 v30_19 ((ps.take k) ++ [((ps[k]).1, ps[k].2)]), rB g29 112 ([.int .i64 ((ps[k]).1), r4]), rB g2 49 ([.slice none 0 0, .slice none 0 0]), rB g3 49 ([r3, o]), rR u8 5 r3 xs, rB g5 112 ([.int .i64 ((ps[k]).1), vd19_8])] := Hold.call Kd13 H14d
    clear H14d H11
    have b22 : B w19 g3 49 ([r3, o]) := Hold.blk H15 3 rfl
    obtain ⟨_, R24⟩ : ∃ F, Kd.R kW w19 F v30_19 ((ps.take k) ++ [((ps[k]).1, ps[k].2)]) := Hold.row H15 0 rfl
    refine edt 10 rfl (by kernel_rfl) (fun w' hS => fa Try.underlying49 rfl ti47 rfl y3) (ed1 11 (by kernel_rfl) <| euf0 rfl (xst (vs := [v30_19]) ti47 rfl rfl (cel1 (R24).oneCell) b22 rfl (Nat.le_of_ble_eq_true rfl) (ones1 (R24).oneCell)) ?_)
    rintro w23 ⟨-, b23, c23⟩
    have H16 : Hold w [] w23 [rR kW 112 v30_19 ((ps.take k) ++ [((ps[k]).1, ps[k].2)]), rB g29 112 ([.int .i64 ((ps[k]).1), r4]), rB g2 49 ([.slice none 0 0, .slice none 0 0]), rB g3 49 ([r3, v30_19]), rR u8 5 r3 xs, rB g5 112 ([.int .i64 ((ps[k]).1), vd19_8])] := Hold.setB H15 3 rfl b23 c23 rfl
    clear H15
    clear b23 c23
    refine ⟨.inl (by kernel_rfl), ?_⟩
    refine edd (by kernel_rfl) ?_
    refine be ?_
    refine gen (fun ρ => ρ 2 = .pointer (some ⟨g2, 0, none⟩) ∧ ρ 3 = .pointer (some ⟨g3, 0, none⟩) ∧ ρ 15 = wv ∧ ρ 16 = .int .i64 (ps.length : Int) ∧ ρ 17 = .int .i64 (k : Int) ∧ True) ⟨y2, y3, y15, y16, y17, trivial⟩ ?_
    rintro ρ ⟨z2, z3, z15, z16, z17, -⟩
    refine rg (r (ad (a := (k : Int)) (b := 1) ((k : Int) + 1) z17 rfl (by omega)) (r (mv rfl) (re ?_)))
    have H17 : Hold w [] w23 [rB g2 49 ([.slice none 0 0, .slice none 0 0]), rB g3 49 ([r3, v30_19]), rR u8 5 r3 xs, rR kW 112 v30_19 ((ps.take k) ++ [((ps[k]).1, ps[k].2)])] := (show Hold w [] w23 ([rB g2 49 ([.slice none 0 0, .slice none 0 0]), rB g3 49 ([r3, v30_19]), rR u8 5 r3 xs, rR kW 112 v30_19 ((ps.take k) ++ [((ps[k]).1, ps[k].2)])] ++ [rB g29 112 ([.int .i64 ((ps[k]).1), r4]), rB g5 112 ([.int .i64 ((ps[k]).1), vd19_8])]) from Hold.re H16 [2, 3, 4, 0, 1, 5] (by rfl) (by rfl)).drop
    clear H16
    exact ag (k + 1, v30_19) ⟨z2, z3, z15, z16, rfl, (by rw [List.take_succ_eq_append_getElem hk']; exact H17), by omega⟩ (by first | omega | (dsimp only; omega))
  · obtain rfl : k = ps.length := by omega
    have H8 : Hold w [] w507 [rB g2 49 ([.slice none 0 0, .slice none 0 0]), rB g3 49 ([r3, o]), rR u8 5 r3 xs, rR kW 112 o ps] := (by rw [List.take_length] at H7; exact H7)
    clear H7
    have b8 : B w507 g3 49 ([r3, o]) := Hold.blk H8 1 rfl
    have b9 : B w507 g2 49 ([.slice none 0 0, .slice none 0 0]) := Hold.blk H8 0 rfl
    obtain ⟨_, R11⟩ : ∃ F, Kd.R kW w507 F o ps := Hold.row H8 3 rfl
    obtain ⟨_, R12⟩ : ∃ F, Kd.R u8 w507 F r3 xs := Hold.row H8 2 rfl
    refine ex rfl (sq (rg (r (lab [r3, o] Try.underlying49 rfl ti49 y3 b8 rfl rfl) (ef0 (xst (vs := [r3, o]) ti49 y2 rfl rfl b9 rfl (Nat.le_of_ble_eq_true rfl) (oc (R12).oneCell (oc (R11).oneCell on))) ?_))))
    rintro w10 ⟨-, b10, c10⟩
    have H9 : Hold w [] w10 [rB g2 49 ([r3, o]), rB g3 49 ([r3, o]), rR u8 5 r3 xs, rR kW 112 o ps] := Hold.setB H8 0 rfl b10 c10 rfl
    clear H8
    clear b10 c10
    refine re (rt ?_)
    have b13 : B w10 g2 49 ([r3, o]) := Hold.blk H9 0 rfl
    have H10 : Hold w [] w10 [rR u8 5 r3 xs, rR kW 112 o ps] := (show Hold w [] w10 ([rR u8 5 r3 xs, rR kW 112 o ps] ++ [rB g2 49 ([r3, o]), rB g3 49 ([r3, o])]) from Hold.re H9 [2, 3, 0, 1] (by rfl) (by rfl)).drop
    clear H9
    exact finc  (cs := [r3, o]) Try.results136 Try.underlying49 rfl ti49 y2 b13 rfl  ⟨_, _, rfl, H10⟩
end Go.Proofs.Ytgpcanjmgdmdhaa
