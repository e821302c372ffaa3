/-
  CONTRACTS 40: what waits is settled. No condition.
-/
import Derived.Test.Ytgpcanjmgdmdhaa39
namespace Go.Proofs.Ytgpcanjmgdmdhaa
open Go Go.Eng
set_option maxRecDepth 100000
set_option maxHeartbeats 4000000
set_option linter.unusedVariables false
set_option linter.unusedSimpArgs false
/-- A write's first c bytes reach the disk. -/
def setl (xs : List Int) (x : Wr) (c : Nat) : List Int := xs.take (x.1.toNat * 64) ++ x.2.take c ++ xs.drop (x.1.toNat * 64 + (x.2.take c).length)
def stN (xs : List Int) (ps : List Wr) (f : Nat → Nat) : Nat → List Int
  | 0 => xs
  | k + 1 => match ps[k]? with
    | some x => setl (stN xs ps f k) x (f k)
    | none => stN xs ps f k
theorem stN_succ {xs : List Int} {ps : List Wr} {f : Nat → Nat} {k : Nat} (h : k < ps.length) : stN xs ps f (k + 1) = setl (stN xs ps f k) ps[k] (f k) := by
  simp only [stN, List.getElem?_eq_getElem h]
theorem setl_len {xs : List Int} {x : Wr} {c : Nat} (h : x.1.toNat * 64 + (x.2.take c).length ≤ xs.length) : (setl xs x c).length = xs.length := by
  simp only [setl, List.length_append, List.length_take, List.length_drop] at h ⊢; omega
theorem stN_len {xs : List Int} {ps : List Wr} {f : Nat → Nat} (V : VD xs ps) : ∀ k, (stN xs ps f k).length = xs.length := by
  intro k
  induction k with
  | zero => rfl
  | succ k ih =>
    by_cases h : k < ps.length
    · have hk := V.ok _ (List.getElem_mem h)
      have hb := V.at (b := ps[k].1) ⟨hk.1, hk.2.1⟩
      have h64 := hk.2.2
      rw [stN_succ h, setl_len (by simp only [List.length_take]; omega), ih]
    · simp only [stN, List.getElem?_eq_none (Nat.le_of_not_lt h)]; exact ih
theorem stN_congr {xs : List Int} {ps : List Wr} {f g : Nat → Nat} (h : ∀ k, k < ps.length → f k = g k) : ∀ k, k ≤ ps.length → stN xs ps f k = stN xs ps g k := by
  intro k
  induction k with
  | zero => intro _; rfl
  | succ k ih => intro hk; rw [stN_succ hk, stN_succ hk, ih (by omega), h k hk]
/-- A row of which one element's own row is known by its value. -/
def rPin (r : Rs) (vd : Value) (ys : List Int) : Rs where
  P w F := r.P w F ∧ ∃ Fd, (∀ k, k ∈ Fd → k ∈ F) ∧ u8.R w Fd vd ys
  mv := fun {w w' F} hm ⟨h, Fd, hs, hR⟩ => ⟨r.mv hm h, Fd, hs, by
    obtain ⟨A, c, G, Fs, cs, rfl, hc, rfl, hG, he, hr⟩ := hR
    refine ⟨A, c, G, Fs, cs, rfl, hc, rfl, fun k hk => ?_, he.imp (fun G' x c hG' hx => Kd.mvK _ (fun k hk => hm k (hs k (List.mem_append_right _ (hG' k hk)))) hx), fun j u hu => ?_⟩
    · have h1 := hG k hk
      have h2 := hm k (hs k (List.mem_append_left _ hk))
      rw [Array.getElem?_eq_getElem h1] at h2
      exact (Array.getElem?_eq_some_iff.1 h2).1
    · obtain ⟨ad, e1, e2, e3⟩ := hr j u hu
      refine ⟨ad, e1, e2, ?_⟩
      rw [World.cell?_of_block (w := w) (by rw [add_block]; exact hm _ (hs _ (List.mem_append_left _ e2)))]
      exact e3⟩
  lt := fun h => r.lt h.1
theorem Hold.pin {w0 w : World} {F0 : List Nat} {Γ : List Rs} {e : TypeId} {v : Value} {ps : List Wr} (H : Hold w0 F0 w Γ) (i : Nat) (hi : Γ[i]? = some (rR kW e v ps)) (j : Nat) (hj : j < ps.length) (Δf : Value → List Rs) (hΔ : ∀ vd, Γ.set i (rPin (rR kW e v ps) vd ps[j].2) = Δf vd) :
    ∃ c ad vd, v = .slice (some ad) ps.length c ∧ (∀ m u, [Value.int .i64 ps[j].1, vd][m]? = some u → w.cell? ((ad.add (j * kW.sz)).add m) = some u) ∧ Hold w0 F0 w (Δf vd) := by
  obtain ⟨F, hP, n, s, K⟩ := H.pick i hi
  obtain ⟨c, ad, cs, e1, hp⟩ := Kd.R.place (Kd.W.R (show Kd.W kW e w F v ps from hP)) j hj
  obtain ⟨vd, Fd, hR, hs, hc⟩ := wr_at hp
  exact ⟨c, ad, vd, e1, hc, K w (rPin (rR kW e v ps) vd ps[j].2) F _ ⟨hP, Fd, hs, hR⟩ (Turn.own n (fun k hk => hk) (Ch.refl _ _)) (hΔ vd)⟩
theorem Hold.pinned {w0 w : World} {F0 : List Nat} {Γ : List Rs} {r : Rs} {vd : Value} {ys : List Int} (H : Hold w0 F0 w Γ) (i : Nat) (hi : Γ[i]? = some (rPin r vd ys)) : ∃ F, u8.R w F vd ys := let ⟨_, _, Fd, _, h⟩ := H.res i hi; ⟨Fd, h⟩
theorem Hold.unpin {w0 w : World} {F0 : List Nat} {Γ Δ : List Rs} {r : Rs} {vd : Value} {ys : List Int} (H : Hold w0 F0 w Γ) (i : Nat) (hi : Γ[i]? = some (rPin r vd ys)) (e : Γ.set i r = Δ) : Hold w0 F0 w Δ := by
  obtain ⟨F, hP, n, s, K⟩ := H.pick i hi
  exact K w r F Δ hP.1 (Turn.own n (fun k hk => hk) (Ch.refl _ _)) e
theorem setl_step {xs : List Int} {x : Wr} {j : Nat} (hj : j < x.2.length) (hb : x.1.toNat * 64 + x.2.length ≤ xs.length) : (setl xs x j).set (x.1.toNat * 64 + j) x.2[j] = setl xs x (j + 1) := by
  unfold setl
  have l1 : (xs.take (x.1.toNat * 64)).length = x.1.toNat * 64 := by simp; omega
  have l2 : (x.2.take j).length = j := by simp; omega
  have l3 : (x.2.take (j + 1)).length = j + 1 := by simp; omega
  rw [l2, l3, List.set_append_right _ _ (by simp only [List.length_append, l1, l2]; omega)]
  simp only [List.length_append, l1, l2]
  rw [show x.1.toNat * 64 + j - (x.1.toNat * 64 + j) = 0 by omega, List.drop_eq_getElem_cons (by omega : x.1.toNat * 64 + j < xs.length), List.set_cons_zero, List.take_succ_eq_append_getElem hj]
  simp only [List.append_assoc, List.cons_append, List.nil_append, Nat.add_assoc]
theorem settle {w : World} {F : List Nat} {g mg : Nat} {dv wv : Value} {xs : List Int} {ps : List Wr} {fc : FuncId} {cap : List Value} {f : Nat → Nat} (h : Hs w [rB g 183 [dv, wv, .map (some mg)], rR u8 5 dv xs, rR kW 112 wv ps, rM mg (yng ps)] F) (nd : F.Nodup) (V : VD xs ps) (hg : Goes Try.prog fc) (hf : ∀ i, i < ps.length → f i ≤ 64)
    (hc : ∀ (w1 : World) (i : Nat), Ch F w w1 → i < ps.length → Ret Try.prog fc ([Value.int .i64 (i : Int)] ++ cap).toArray w1 (fun r w' => r = .int .i64 (f i : Int) ∧ Ch [] w1 w')) :
    Ret Try.prog 156 #[.pointer (some ⟨g, 0, none⟩), .func (.func fc) #[] cap.toArray] w (fun r w' => Hold w F w' [rB g 183 [dv, (.slice none 0 0), .map (some mg)], rR u8 5 dv (stN xs ps f ps.length), rR kW 112 (.slice none 0 0) ([]), rM mg (yng ([]))]) := by
  have hlx := V.len2
  have hnp := V.num
  have h64 := V.h64
  refine enter Try.func156 rfl Try.ntmps156 (by rfl) (by rfl) ?_
  have H0 : Hold w F w [rB g 183 ([dv, wv, .map (some mg)]), rR u8 5 dv xs, rR kW 112 wv ps, rM mg (yng ps)] := Hold.begin h nd
  have b1 : B w g 183 ([dv, wv, .map (some mg)]) := Hold.blk H0 0 rfl
  obtain ⟨_, R2⟩ : ∃ F, Kd.R kW w F wv ps := Hold.row H0 2 rfl
  refine sq (sq (rg (r (mv rfl) (r (nck rfl) (r (fa Try.underlying183 rfl ti47 rfl rfl) (r (ldb Try.underlying47 rfl rfl b1 rfl) (r (ln Try.underlying47 rfl (R2)) (r (mv rfl) (re (bl ?_))))))))))
  refine lp (α := Nat) (fun i ρ w' => ρ 0 = .pointer (some ⟨g, 0, none⟩) ∧ ρ 1 = .func (.func fc) #[] cap.toArray ∧ ρ 9 = wv ∧ ρ 10 = .int .i64 (ps.length : Int) ∧ ρ 11 = .int .i64 (i : Int) ∧ Hold w F w' [rB g 183 ([dv, wv, .map (some mg)]), rR u8 5 dv (stN xs ps f i), rR kW 112 wv ps, rM mg (yng ps)] ∧ i ≤ ps.length) (fun i => ps.length - i) 0 ?_ ?_
  · exact ⟨rfl, rfl, rfl, rfl, rfl, H0, by omega⟩
  clear H0
  rintro i ρ w501 ⟨y0, y1, y9, y10, y11, H1, hi⟩
  refine sq (rg (r (bi y11 y10 rfl) (re (sq ?_))))
  refine cp rfl (fun hlt => ?_) (fun hlt => ?_)
  · have hi' : i < ps.length := by omega
    have hk := V.ok _ (List.getElem_mem hi')
    have hb := V.at (b := ps[i].1) ⟨hk.1, hk.2.1⟩
    have hSl := stN_len (f := f) V i
    have hfi := hf i hi'
    have hyl := hk.2.2
    obtain ⟨cp3, ap3, vp3, ep3, qpin3, H2⟩ := Hold.pin H1 2 rfl i (by omega) (fun vd => [rB g 183 ([dv, wv, .map (some mg)]), rR u8 5 dv (stN xs ps f i), rPin (rR kW 112 wv ps) vd ps[i].2, rM mg (yng ps)]) (fun _ => rfl)
    clear H1
    refine sk (sq (bl (sq (rg (r (mv y11) (r (ix (j := i) Try.underlying47 ti112 (y9.trans ep3) y11 (by omega)) (r (la [.int .i64 (ps[i].1), vp3] Try.underlying112 rfl ti112 rfl rfl (fun m u h => (qpin3 m u h))) (ef (xal ti112) ?_))))))))
    rintro _ w4 ⟨g5, e4, rfl, -, b4, c4⟩
    have H3 : Hold w F w4 [rB g 183 ([dv, wv, .map (some mg)]), rR u8 5 dv (stN xs ps f i), rPin (rR kW 112 wv ps) vp3 ps[i].2, rM mg (yng ps), rB g5 112 ([.int .i64 0, .slice none 0 0])] := Hold.newB H2 e4 b4 c4
    clear H2
    clear e4 b4 c4
    have b5 : B w4 g5 112 ([.int .i64 0, .slice none 0 0]) := Hold.blk H3 4 rfl
    obtain ⟨_, T7⟩ := Hold.pinned H3 2 rfl
    refine r (sa rfl) (ef0 (xst (vs := [.int .i64 (ps[i].1), vp3]) ti112 rfl rfl rfl b5 rfl (Nat.le_of_ble_eq_true rfl) (oc rfl (oc (T7).oneCell on))) ?_)
    rintro w6 ⟨-, b6, c6⟩
    have H4 : Hold w F w6 [rB g 183 ([dv, wv, .map (some mg)]), rR u8 5 dv (stN xs ps f i), rPin (rR kW 112 wv ps) vp3 ps[i].2, rM mg (yng ps), rB g5 112 ([.int .i64 (ps[i].1), vp3])] := Hold.setB H3 4 rfl b6 c6 rfl
    clear H3
    clear b6 c6
    refine re ?_
    refine rde mixed ?_
    intro w8 c8
    have H5 : Hold w F w8 [rB g 183 ([dv, wv, .map (some mg)]), rR u8 5 dv (stN xs ps f i), rPin (rR kW 112 wv ps) vp3 ps[i].2, rM mg (yng ps), rB g5 112 ([.int .i64 (ps[i].1), vp3])] := Hold.t H4 c8
    clear H4
    clear c8
    have H9d0 : Hold w8 [] w8 [] := Hold.start w8
    refine ⟨fun w' => Ch [] w8 w', Ch.refl _ _, ?_⟩
    have b10 : B w8 g5 112 ([.int .i64 (ps[i].1), vp3]) := Hold.blk H5 4 rfl
    have b12 : B w8 g 183 ([dv, wv, .map (some mg)]) := Hold.blk H5 0 rfl
    obtain ⟨_, R13⟩ : ∃ F, Kd.R u8 w8 F dv (stN xs ps f i) := Hold.row H5 1 rfl
    refine edt 0 rfl (by kernel_rfl) (fun w' hS => mv y0) (edt 1 rfl (by kernel_rfl) (fun w' hS => fa Try.underlying112 rfl ti2 rfl rfl) (edt 2 rfl (by kernel_rfl) (fun w' hS => ldb Try.underlying2 rfl rfl (hS.b0 b10) rfl) (edt 4 rfl (by kernel_rfl) (fun w' hS => fa Try.underlying112 rfl ti40 rfl rfl) (edt 5 rfl (by kernel_rfl) (fun w' hS => ldb Try.underlying40 rfl rfl (hS.b0 b10) rfl) (edt 6 rfl (by kernel_rfl) (fun w' hS => mv y1) (edt 7 rfl (by kernel_rfl) (fun w' hS => mv rfl) (ed1 3 (by kernel_rfl) <| euc rfl go155 (ac rfl (ac rfl an)) (place (b := ps[i].1) ((Hold.ch H9d0).b0 b12) (R13.t (Hold.ch H9d0)) (by omega) ⟨by omega, by omega⟩) ?_)))))))
    rintro r wp ⟨rfl, cp⟩
    have H6d : Hold w8 [] wp [] := Hold.t H9d0 cp
    clear H9d0
    clear cp
    refine ⟨.inr (Hold.ch H6d), ?_⟩
    refine ed1 8 (by kernel_rfl) <| eucv rfl rfl hg (ac rfl an) (hc _ i (Hold.ch (Hold.t H5 (Hold.ch H6d))) hi') ?_
    rintro r wf ⟨rfl, cf⟩
    have H7d : Hold w8 [] wf [] := Hold.t H6d cf
    clear H6d
    clear cf
    refine ⟨.inr (Hold.ch H7d), ?_⟩
    obtain ⟨_, T15⟩ := Hold.pinned H5 2 rfl
    have H8 : Hold w F wf [rB g 183 ([dv, wv, .map (some mg)]), rR u8 5 dv (stN xs ps f i), rPin (rR kW 112 wv ps) vp3 ps[i].2, rM mg (yng ps), rB g5 112 ([.int .i64 (ps[i].1), vp3])] := Hold.news H5 H7d
    clear H7d H5
    obtain ⟨_, T16⟩ := Hold.pinned H8 2 rfl
    obtain ⟨F17, us17, R17⟩ := Kd.R.sl T16 (0) (f i) (by first | omega | (simp; omega)) (by first | omega | (simp; omega))
    have e17 : ((ps[i].2).take (f i)).drop 0 = ps[i].2.take (f i) := by first | (rw [List.take_length, List.drop_drop]; done) | (rw [List.drop_take]; done) | (simp; done) | (rw [List.take_length, List.drop_drop]; congr 1; omega)
    rw [e17] at R17
    obtain ⟨F18, P18, n18, s18, K18⟩ := Hold.pick H8 1 rfl
    replace P18 : Kd.W u8 5 wf F18 dv (stN xs ps f i) := P18
    refine edt 9 rfl (by kernel_rfl) (fun w' hS => slrh (f i) Try.underlying40 ti5 (T15.t hS) rfl rfl (by omega)) (ed1 10 (by kernel_rfl) <| euf rfl (cpw (ps[i].1.toNat * 64) (ps[i].1.toNat * 64 + 64) Try.underlying40 ti5 rfl rfl P18 ⟨by omega, by omega, by omega⟩ R17) ?_)
    rintro _ w19 ⟨F19, A19⟩
    have eC19 : (ps[i].2.take (f i)).take (ps[i].1.toNat * 64 + 64 - ps[i].1.toNat * 64) = ps[i].2.take (f i) := List.take_of_length_le (by simp; omega)
    rw [eC19] at A19
    have H9 : Hold w F w19 [rB g 183 ([dv, wv, .map (some mg)]), rR u8 5 dv (setl (stN xs ps f i) ps[i] (f i)), rPin (rR kW 112 wv ps) vp3 ps[i].2, rM mg (yng ps), rB g5 112 ([.int .i64 (ps[i].1), vp3])] := Hold.mut (ys := []) K18 A19 rfl
    clear H8
    clear A19 K18 P18 n18 s18
    refine ⟨.inl (by kernel_rfl), ?_⟩
    refine edd (by kernel_rfl) ?_
    refine be ?_
    refine gen (fun ρ => ρ 0 = .pointer (some ⟨g, 0, none⟩) ∧ ρ 1 = .func (.func fc) #[] cap.toArray ∧ ρ 9 = wv ∧ ρ 10 = .int .i64 (ps.length : Int) ∧ ρ 11 = .int .i64 (i : Int) ∧ True) ⟨y0, y1, y9, y10, y11, trivial⟩ ?_
    rintro ρ ⟨z0, z1, z9, z10, z11, -⟩
    refine rg (r (ad (a := (i : Int)) (b := 1) ((i : Int) + 1) z11 rfl (by omega)) (r (mv rfl) (re ?_)))
    have H10 : Hold w F w19 [rB g 183 ([dv, wv, .map (some mg)]), rR u8 5 dv (setl (stN xs ps f i) ps[i] (f i)), rR kW 112 wv ps, rM mg (yng ps), rB g5 112 ([.int .i64 (ps[i].1), vp3])] := Hold.unpin H9 2 rfl rfl
    clear H9
    have H11 : Hold w F w19 [rB g 183 ([dv, wv, .map (some mg)]), rR u8 5 dv (setl (stN xs ps f i) ps[i] (f i)), rR kW 112 wv ps, rM mg (yng ps)] := (show Hold w F w19 ([rB g 183 ([dv, wv, .map (some mg)]), rR u8 5 dv (setl (stN xs ps f i) ps[i] (f i)), rR kW 112 wv ps, rM mg (yng ps)] ++ [rB g5 112 ([.int .i64 (ps[i].1), vp3])]) from Hold.re H10 [0, 1, 2, 3, 4] (by kernel_rfl) (by rfl)).drop
    clear H10
    exact ag (i + 1) ⟨z0, z1, z9, z10, rfl, (by rw [stN_succ hi']; exact H11), by omega⟩ (by first | omega | (dsimp only; omega))
  · obtain rfl : i = ps.length := by omega
    have H2 : Hold w F w501 [rB g 183 ([dv, wv, .map (some mg)]), rR u8 5 dv (stN xs ps f ps.length), rR kW 112 wv ps, rM mg (yng ps), rR kW 112 (.slice none 0 0) ([])] := Hold.nilrow kW 112 H1
    clear H1
    have b3 : B w501 g 183 ([dv, wv, .map (some mg)]) := Hold.blk H2 0 rfl
    obtain ⟨_, R5⟩ : ∃ F, Kd.R kW w501 F (.slice none 0 0) ([]) := Hold.row H2 4 rfl
    refine ex rfl (sq (rg (r (mv y0) (r (nck rfl) (r (fa Try.underlying183 rfl ti47 rfl rfl) (ef0 (xst (vs := [.slice none 0 0]) ti47 rfl rfl (cel1 (R5).oneCell) b3 rfl (Nat.le_of_ble_eq_true rfl) (ones1 (R5).oneCell)) ?_))))))
    rintro w4 ⟨-, b4, c4⟩
    have H3 : Hold w F w4 [rB g 183 ([dv, .slice none 0 0, .map (some mg)]), rR u8 5 dv (stN xs ps f ps.length), rR kW 112 wv ps, rM mg (yng ps), rR kW 112 (.slice none 0 0) ([])] := Hold.setB H2 0 rfl b4 c4 rfl
    clear H2
    clear b4 c4
    have b6 : B w4 g 183 ([dv, .slice none 0 0, .map (some mg)]) := Hold.blk H3 0 rfl
    have b7 : MpI w4 mg (yng ps) := Hold.mp H3 3 rfl
    refine re (rg (r (mv y0) (r (nck rfl) (r (fa Try.underlying183 rfl ti181 rfl rfl) (r (ldb Try.underlying181 rfl rfl b6 rfl) (ef (xcl Try.underlying181 rfl b7) ?_))))))
    rintro _ w8 ⟨b8, c8⟩
    have H4 : Hold w F w8 [rB g 183 ([dv, .slice none 0 0, .map (some mg)]), rR u8 5 dv (stN xs ps f ps.length), rR kW 112 wv ps, rM mg (fun _ => none), rR kW 112 (.slice none 0 0) ([])] := Hold.setM H3 3 rfl b8 c8 rfl
    clear H3
    clear b8 c8
    refine re ?_
    have H5 : Hold w F w8 [rB g 183 ([dv, .slice none 0 0, .map (some mg)]), rR u8 5 dv (stN xs ps f ps.length), rR kW 112 (.slice none 0 0) ([]), rM mg (fun _ => none)] := (show Hold w F w8 ([rB g 183 ([dv, .slice none 0 0, .map (some mg)]), rR u8 5 dv (stN xs ps f ps.length), rR kW 112 (.slice none 0 0) ([]), rM mg (fun _ => none)] ++ [rR kW 112 wv ps]) from Hold.re H4 [0, 1, 4, 3, 2] (by kernel_rfl) (by rfl)).drop
    clear H4
    exact fin0 Try.results156 (show Hold _ _ _ _ from H5)
end Go.Proofs.Ytgpcanjmgdmdhaa
