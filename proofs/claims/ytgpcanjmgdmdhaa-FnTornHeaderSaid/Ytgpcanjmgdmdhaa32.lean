/-
  THE LAW'S WALK: TornHeader. No condition.
-/
import Derived.Test.Ytgpcanjmgdmdhaa31
namespace Go.Proofs.Ytgpcanjmgdmdhaa
open Go Go.Eng
set_option maxRecDepth 100000
set_option maxHeartbeats 4000000
set_option linter.unusedVariables false
set_option linter.unusedSimpArgs false
theorem spec_EncodeHeader_H {w : World} {q s b : Int} : Ret Try.prog 33 #[.agg #[.int .i64 q, .int .i64 s, .int .i64 b]] w (fun r w' => Hold w [] w' [rR u8 5 r (encHeader q s b)]) :=
  Calls.mono spec_EncodeHeader fun _ _ h => h.imp fun _ h => ⟨h.1, hold_new h.2.1 h.2.2⟩
theorem impl_EncodeHeader_H {w : World} {q s b : Int} : Ret Try.prog 35 #[.agg #[.int .i64 q, .int .i64 s, .int .i64 b]] w (fun r w' => ∃ e, Hold w [] w' [rR u8 e r (encHeader q s b)]) :=
  Calls.mono impl_EncodeHeader fun _ _ h => h.imp fun _ h => ⟨h.1, h.2.1.imp fun e he => hold_new he h.2.2⟩
theorem eqHdr {w : World} {x1 x2 x3 y1 y2 y3 : Int} : (Op.equalIn 10000 42 (.agg #[.int .i64 x1, .int .i64 x2, .int .i64 x3]) (.agg #[.int .i64 y1, .int .i64 y2, .int .i64 y3])).run Try.prog w = .ok (decide ((x1, x2, x3) = (y1, y2, y3))) w := by
  rw [show (10000 : Nat) = 9999 + 1 from rfl, run_equalIn_struct w 9999 42 _ _ (by kernel_rfl) (by kernel_rfl)]
  rw [show (Try.prog.fieldsOf 42).toList = [_, _, _] from rfl, eqf (k := .i64) (by rfl) (by kernel_rfl) (by kernel_rfl) (by rfl) (by rfl), eqf (k := .i64) (by rfl) (by kernel_rfl) (by kernel_rfl) (by rfl) (by rfl), eqf (k := .i64) (by rfl) (by kernel_rfl) (by kernel_rfl) (by rfl) (by rfl)]
  simp only [Op.eqFields, Sem.run_pure, Prod.mk.injEq]
  by_cases h1 : x1 = y1 <;> by_cases h2 : x2 = y2 <;> by_cases h3 : x3 = y3 <;> simp [h1, h2, h3]
theorem ok8_wf {xs : List Int} (h : ∀ x, x ∈ xs → (Lit.int .u8 x).wf = true) : ok8 xs := fun x hx => by
  have := h x hx
  simp [Lit.wf, IntKind.min, IntKind.max, IntKind.signed, IntKind.bits] at this
  omega
theorem ok8_encHx {q s b : Int} (h : hdr q s b) : ok8 (encH q s b) := by have := ok8_encHeader q s b; rwa [show encHeader q s b = encH q s b from if_pos h] at this
theorem dec_mix {w : World} {F : List Nat} {v : Value} {xs ys : List Int} (hx : u8.R w F v (nums8 (mkS xs ++ mkS ys))) (okx : ok8 xs) (oky : ok8 ys) (l : (xs ++ ys).length ≤ 1000000000) :
    Ret Try.prog 62 #[v] w (fun r w' => r = .agg #[.bool (decide (decH (xs ++ ys))), .int .i64 (dV (xs ++ ys) (hq (xs ++ ys))), .int .i64 (dV (xs ++ ys) (hs_ (xs ++ ys))), .int .i64 (dV (xs ++ ys) (hb_ (xs ++ ys)))] ∧ Ch [] w w') := by
  rw [mix_nums okx oky] at hx
  exact impl_DecodeHeader hx l (ok8_app okx oky)
theorem w_FnTornHeader {w : World} {F G : List Nat} {v u : Value} {xs ys : List Int} (hx : u8.R w F v xs) (hy : u8.R w G u ys) (lx : xs.length ≤ 9223372036854775807) (ly : ys.length ≤ 9223372036854775807) (okx : ok8 xs) (oky : ok8 ys) :
    Ret Try.prog 13 #[v, u] w (fun r w' => r = .bool true ∧ Ch [] w w') := by
  refine enter Try.func13 rfl Try.ntmps13 (by rfl) (by rfl) ?_
  have H0 : Hold w [] w [] := Hold.start w
  refine sq (rg (r (sa rfl) (re (sq (sq (rg (r (mv rfl) (r (ln Try.underlying40 rfl ((hx.t (Hold.ch H0)))) (r (bi rfl rfl rfl) (r (mv rfl) ?_))))))))))
  refine sp 14 rfl (fun hlx => ?_) (fun hlx => ?_)
  · refine gn rfl rfl rfl (gn rfl rfl rfl (gn rfl rfl rfl (r (pk rfl rfl) (re (ct rfl (sq (rg (r (sa rfl) (re (rt ?_))))))))))
    exact fin1 (v := .bool true) Try.results13 rfl ⟨rfl, Hold.ch H0⟩
  · refine gy rfl rfl rfl (r (mv rfl) (gy rfl rfl rfl (r (ln Try.underlying40 rfl ((hy.t (Hold.ch H0)))) (gy rfl rfl rfl (r (bi rfl rfl rfl) (r (pk rfl rfl) (re ?_)))))))
    refine cp rfl (fun hly => ?_) (fun hly => ?_)
    · refine sq (rg (r (sa rfl) (re (rt ?_))))
      exact fin1 (v := .bool true) Try.results13 rfl ⟨rfl, Hold.ch H0⟩
    · refine sk (sq (rg (r (mv rfl) (cl go64 (DrawEncodeHeader (hx.t (Hold.ch H0)) (by omega) okx) (ac rfl an) ?_))))
      rintro r wd ⟨q, s, b, rfl, cd⟩
      have H1 : Hold w [] wd [] := Hold.t H0 cd
      clear H0
      clear cd
      refine ef (xal ti42) ?_
      rintro _ w2 ⟨g5, e2, rfl, -, b2, c2⟩
      have H2 : Hold w [] w2 [rB g5 42 ([.int .i64 0, .int .i64 0, .int .i64 0])] := Hold.newB H1 e2 b2 c2
      clear H1
      clear e2 b2 c2
      have b3 : B w2 g5 42 ([.int .i64 0, .int .i64 0, .int .i64 0]) := Hold.blk H2 0 rfl
      refine ef0 (xst (vs := [.int .i64 q, .int .i64 s, .int .i64 b]) ti42 rfl rfl rfl b3 rfl (Nat.le_of_ble_eq_true rfl) (one_all rfl)) ?_
      rintro w4 ⟨-, b4, c4⟩
      have H3 : Hold w [] w4 [rB g5 42 ([.int .i64 q, .int .i64 s, .int .i64 b])] := Hold.setB H2 0 rfl b4 c4 rfl
      clear H2
      clear b4 c4
      refine re (sq ?_)
      refine gen (fun ρ => ρ 1 = u ∧ ρ 4 = .bool false ∧ ρ 5 = .pointer (some ⟨g5, 0, none⟩) ∧ True) ⟨rfl, rfl, rfl, trivial⟩ ?_
      rintro ρ ⟨z1, z4, z5, -⟩
      refine rg (r (mv z1) (cl go64 (DrawEncodeHeader (hy.t (Hold.ch H3)) (by omega) oky) (ac rfl an) ?_))
      rintro r wd' ⟨q', s', b', rfl, cd'⟩
      have H4 : Hold w [] wd' [rB g5 42 ([.int .i64 q, .int .i64 s, .int .i64 b])] := Hold.t H3 cd'
      clear H3
      refine ef (xal ti42) ?_
      rintro _ w6 ⟨g6, e6, rfl, -, b6, c6⟩
      have H5 : Hold w [] w6 [rB g5 42 ([.int .i64 q, .int .i64 s, .int .i64 b]), rB g6 42 ([.int .i64 0, .int .i64 0, .int .i64 0])] := Hold.newB H4 e6 b6 c6
      clear H4
      clear e6 b6 c6
      have b7 : B w6 g6 42 ([.int .i64 0, .int .i64 0, .int .i64 0]) := Hold.blk H5 1 rfl
      refine ef0 (xst (vs := [.int .i64 q', .int .i64 s', .int .i64 b']) ti42 rfl rfl rfl b7 rfl (Nat.le_of_ble_eq_true rfl) (one_all rfl)) ?_
      rintro w8 ⟨-, b8, c8⟩
      have H6 : Hold w [] w8 [rB g5 42 ([.int .i64 q, .int .i64 s, .int .i64 b]), rB g6 42 ([.int .i64 q', .int .i64 s', .int .i64 b'])] := Hold.setB H5 1 rfl b8 c8 rfl
      clear H5
      clear b8 c8
      have b9 : B w8 g5 42 ([.int .i64 q, .int .i64 s, .int .i64 b]) := Hold.blk H6 0 rfl
      refine re (sq (rg (r (lab [.int .i64 q, .int .i64 s, .int .i64 b] Try.underlying42 rfl ti42 z5 b9 rfl rfl) (cl go35 (impl_EncodeHeader_H (q := q) (s := s) (b := b)) (ac rfl an) ?_))))
      rintro ria weia ⟨eia, Heia⟩
      have H7 : Hold w [] weia [rB g5 42 ([.int .i64 q, .int .i64 s, .int .i64 b]), rB g6 42 ([.int .i64 q', .int .i64 s', .int .i64 b']), rR u8 eia ria (encHeader q s b)] := Hold.news H6 Heia
      clear H6
      clear Heia
      have b11 : B weia g6 42 ([.int .i64 q', .int .i64 s', .int .i64 b']) := Hold.blk H7 1 rfl
      refine r (sa rfl) (re (sq (rg (r (lab [.int .i64 q', .int .i64 s', .int .i64 b'] Try.underlying42 rfl ti42 rfl b11 rfl rfl) (cl go35 (impl_EncodeHeader_H (q := q') (s := s') (b := b')) (ac rfl an) ?_)))))
      rintro rib weib ⟨eib, Heib⟩
      have H8 : Hold w [] weib [rB g5 42 ([.int .i64 q, .int .i64 s, .int .i64 b]), rB g6 42 ([.int .i64 q', .int .i64 s', .int .i64 b']), rR u8 eia ria (encHeader q s b), rR u8 eib rib (encHeader q' s' b')] := Hold.news H7 Heib
      clear H7
      clear Heib
      have b13 : B weib g5 42 ([.int .i64 q, .int .i64 s, .int .i64 b]) := Hold.blk H8 0 rfl
      refine r (sa rfl) (re (sq (sq (rg (r (lab [.int .i64 q, .int .i64 s, .int .i64 b] Try.underlying42 rfl ti42 z5 b13 rfl rfl) (cl go33 (spec_EncodeHeader_H (q := q) (s := s) (b := b)) (ac rfl an) ?_))))))
      rintro rsa wesa Hesa
      have H9 : Hold w [] wesa [rB g5 42 ([.int .i64 q, .int .i64 s, .int .i64 b]), rB g6 42 ([.int .i64 q', .int .i64 s', .int .i64 b']), rR u8 eia ria (encHeader q s b), rR u8 eib rib (encHeader q' s' b'), rR u8 5 rsa (encHeader q s b)] := Hold.news H8 Hesa
      clear H8
      clear Hesa
      obtain ⟨_, R15⟩ : ∃ F, Kd.R u8 wesa F rsa (encHeader q s b) := Hold.row H9 4 rfl
      obtain ⟨_, R16⟩ : ∃ F, Kd.R u8 wesa F ria (encHeader q s b) := Hold.row H9 2 rfl
      refine r (ln Try.underlying40 rfl (R15)) (r (mv rfl) (r (ln Try.underlying40 rfl (R16)) (r (bi rfl rfl rfl) (r (mv rfl) ?_))))
      refine spf 33 rfl (show (!decide (((encHeader q s b).length : Int) = ((encHeader q s b).length : Int))) = false from (by rw [decide_eq_true rfl]; rfl)) ?_
      have b17 : B wesa g6 42 ([.int .i64 q', .int .i64 s', .int .i64 b']) := Hold.blk H9 1 rfl
      refine gy rfl rfl rfl (r (lab [.int .i64 q', .int .i64 s', .int .i64 b'] Try.underlying42 rfl ti42 rfl b17 rfl rfl) (gy rfl rfl rfl (cl go33 (spec_EncodeHeader_H (q := q') (s := s') (b := b')) (ac rfl an) ?_)))
      rintro rsb wesb Hesb
      have H10 : Hold w [] wesb [rB g5 42 ([.int .i64 q, .int .i64 s, .int .i64 b]), rB g6 42 ([.int .i64 q', .int .i64 s', .int .i64 b']), rR u8 eia ria (encHeader q s b), rR u8 eib rib (encHeader q' s' b'), rR u8 5 rsa (encHeader q s b), rR u8 5 rsb (encHeader q' s' b')] := Hold.news H9 Hesb
      clear H9
      clear Hesb
      obtain ⟨_, R19⟩ : ∃ F, Kd.R u8 wesb F rsb (encHeader q' s' b') := Hold.row H10 5 rfl
      obtain ⟨_, R20⟩ : ∃ F, Kd.R u8 wesb F rib (encHeader q' s' b') := Hold.row H10 3 rfl
      refine gy rfl rfl rfl (r (ln Try.underlying40 rfl (R19)) (gy rfl rfl rfl (r (mv rfl) (gy rfl rfl rfl (r (ln Try.underlying40 rfl (R20)) (gy rfl rfl rfl (r (bi rfl rfl rfl) (r (pk rfl rfl) (re ?_)))))))))
      refine cf ((rfl : _ = Value.bool (!decide (((encHeader q' s' b').length : Int) = ((encHeader q' s' b').length : Int)))).trans (congrArg Value.bool (show (!decide (((encHeader q' s' b').length : Int) = ((encHeader q' s' b').length : Int))) = false from (by rw [decide_eq_true rfl]; rfl)))) ?_
      refine sk (sq (sq ?_))
      refine gen (fun ρ => ρ 4 = .bool false ∧ ρ 5 = .pointer (some ⟨g5, 0, none⟩) ∧ ρ 6 = .pointer (some ⟨g6, 0, none⟩) ∧ ρ 7 = ria ∧ ρ 8 = rib ∧ True) ⟨z4, z5, rfl, rfl, rfl, trivial⟩ ?_
      rintro ρ ⟨z4, z5, z6, z7, z8, -⟩
      obtain ⟨_, R21⟩ : ∃ F, Kd.R u8 wesb F ria (encHeader q s b) := Hold.row H10 2 rfl
      refine rg (r (mv z7) (r (ln Try.underlying40 rfl (R21)) (r (bi rfl rfl rfl) (r (mv rfl) ?_))))
      refine sp 44 rfl (fun hz => ?_) (fun hz => ?_)
      · refine gn rfl rfl rfl (gn rfl rfl rfl (gn rfl rfl rfl (r (pk rfl rfl) (re (ct rfl (sq (rg ?_)))))))
        refine ef (xbs0 (dk := u8) Try.underlying40 ti5) ?_
        rintro v22 w22 N22
        have H11 : Hold w [] w22 [rB g5 42 ([.int .i64 q, .int .i64 s, .int .i64 b]), rB g6 42 ([.int .i64 q', .int .i64 s', .int .i64 b']), rR u8 eia ria (encHeader q s b), rR u8 eib rib (encHeader q' s' b'), rR u8 5 rsa (encHeader q s b), rR u8 5 rsb (encHeader q' s' b'), rR u8 5 v22 ([])] := Hold.newr H10 N22
        clear H10
        obtain ⟨_, R24⟩ : ∃ F, Kd.R u8 w22 F v22 ([]) := Hold.row H11 6 rfl
        refine cl go62 (impl_DecodeHeader R24 (by simp) (by intro x hx; simp at hx)) (ac rfl an) ?_
        rintro r wz ⟨rfl, cz⟩
        have H12 : Hold w [] wz [rB g5 42 ([.int .i64 q, .int .i64 s, .int .i64 b]), rB g6 42 ([.int .i64 q', .int .i64 s', .int .i64 b']), rR u8 eia ria (encHeader q s b), rR u8 eib rib (encHeader q' s' b'), rR u8 5 rsa (encHeader q s b), rR u8 5 rsb (encHeader q' s' b'), rR u8 5 v22 ([])] := Hold.t H11 cz
        clear H11
        clear cz
        refine r (fld Try.underlying80 rfl Try.underlying4 rfl rfl rfl) (r (nt rfl) (r (sa rfl) (re (rt ?_))))
        exact fin1 (v := .bool (!(decide (decH [])))) Try.results13 rfl ⟨congrArg Value.bool (by rw [decide_eq_false (fun e => by have := e.1; simp at this)]; rfl), Hold.ch H12⟩
      · refine gy rfl rfl rfl (r (mv z8) (gy rfl rfl rfl (r (ln Try.underlying40 rfl (R20)) (gy rfl rfl rfl (r (bi rfl rfl rfl) (r (pk rfl rfl) (re ?_)))))))
        refine cp rfl (fun hz2 => ?_) (fun hz2 => ?_)
        · refine sq (rg ?_)
          refine ef (xbs0 (dk := u8) Try.underlying40 ti5) ?_
          rintro v22 w22 N22
          have H11 : Hold w [] w22 [rB g5 42 ([.int .i64 q, .int .i64 s, .int .i64 b]), rB g6 42 ([.int .i64 q', .int .i64 s', .int .i64 b']), rR u8 eia ria (encHeader q s b), rR u8 eib rib (encHeader q' s' b'), rR u8 5 rsa (encHeader q s b), rR u8 5 rsb (encHeader q' s' b'), rR u8 5 v22 ([])] := Hold.newr H10 N22
          clear H10
          obtain ⟨_, R24⟩ : ∃ F, Kd.R u8 w22 F v22 ([]) := Hold.row H11 6 rfl
          refine cl go62 (impl_DecodeHeader R24 (by simp) (by intro x hx; simp at hx)) (ac rfl an) ?_
          rintro r wz ⟨rfl, cz⟩
          have H12 : Hold w [] wz [rB g5 42 ([.int .i64 q, .int .i64 s, .int .i64 b]), rB g6 42 ([.int .i64 q', .int .i64 s', .int .i64 b']), rR u8 eia ria (encHeader q s b), rR u8 eib rib (encHeader q' s' b'), rR u8 5 rsa (encHeader q s b), rR u8 5 rsb (encHeader q' s' b'), rR u8 5 v22 ([])] := Hold.t H11 cz
          clear H11
          clear cz
          refine r (fld Try.underlying80 rfl Try.underlying4 rfl rfl rfl) (r (nt rfl) (r (sa rfl) (re (rt ?_))))
          exact fin1 (v := .bool (!(decide (decH [])))) Try.results13 rfl ⟨congrArg Value.bool (by rw [decide_eq_false (fun e => by have := e.1; simp at this)]; rfl), Hold.ch H12⟩
        · have hh : hdr q s b := Decidable.byContradiction fun hn => hz (by simp [encHeader, hn])
          have hh' : hdr q' s' b' := Decidable.byContradiction fun hn => hz2 (by simp [encHeader, hn])
          have ea : encHeader q s b = encH q s b := if_pos hh
          have eb : encHeader q' s' b' = encH q' s' b' := if_pos hh'
          have H11 : Hold w [] wesb [rB g5 42 ([.int .i64 q, .int .i64 s, .int .i64 b]), rB g6 42 ([.int .i64 q', .int .i64 s', .int .i64 b']), rR u8 eia ria (encHeader q s b), rR u8 eib rib (encHeader q' s' b')] := (show Hold w [] wesb ([rB g5 42 ([.int .i64 q, .int .i64 s, .int .i64 b]), rB g6 42 ([.int .i64 q', .int .i64 s', .int .i64 b']), rR u8 eia ria (encHeader q s b), rR u8 eib rib (encHeader q' s' b')] ++ [rR u8 5 rsa (encHeader q s b), rR u8 5 rsb (encHeader q' s' b')]) from Hold.re H10 [0, 1, 2, 3, 4, 5] (by rfl) (by rfl)).drop
          clear H10
          have H12 : Hold w [] wesb [rB g5 42 ([.int .i64 q, .int .i64 s, .int .i64 b]), rB g6 42 ([.int .i64 q', .int .i64 s', .int .i64 b']), rR u8 eia ria (encH q s b), rR u8 eib rib (encH q' s' b')] := (by rw [← ea, ← eb]; exact H11)
          clear H11
          have la := encH_len q s b
          have lb := encH_len q' s' b'
          refine sk (sq (sq (rg (r (sa rfl) (re (bl ?_))))))
          refine lp (α := Nat) (fun k ρ w' => ρ 5 = .pointer (some ⟨g5, 0, none⟩) ∧ ρ 6 = .pointer (some ⟨g6, 0, none⟩) ∧ ρ 7 = ria ∧ ρ 8 = rib ∧ ρ 9 = .int .i64 (k : Int) ∧ Hold w [] w' [rB g5 42 ([.int .i64 q, .int .i64 s, .int .i64 b]), rB g6 42 ([.int .i64 q', .int .i64 s', .int .i64 b']), rR u8 eia ria (encH q s b), rR u8 eib rib (encH q' s' b')] ∧ k ≤ 65) (fun k => 65 - k) 0 ?_ ?_
          · exact ⟨z5, z6, z7, z8, rfl, H12, by omega⟩
          clear H12
          rintro k ρ w513 ⟨y5, y6, y7, y8, y9, H13, hk⟩
          refine sq (sq (rg (r (mv y9) (r (bi rfl rfl rfl) (re ?_)))))
          refine cp rfl (fun hc => ?_) (fun hc => ?_)
          · have hk64 : k ≤ 64 := by omega
            refine sk (sq (bl (sq ?_)))
            refine rde_cut (fun ρ w' => ∃ g10 : Nat, ρ 5 = .pointer (some ⟨g5, 0, none⟩) ∧ ρ 6 = .pointer (some ⟨g6, 0, none⟩) ∧ ρ 7 = ria ∧ ρ 8 = rib ∧ ρ 9 = .int .i64 (k : Int) ∧ ρ 10 = .pointer (some ⟨g10, 0, none⟩) ∧ Hold w [] w' [rB g5 42 ([.int .i64 q, .int .i64 s, .int .i64 b]), rB g6 42 ([.int .i64 q', .int .i64 s', .int .i64 b']), rR u8 eia ria (encH q s b), rR u8 eib rib (encH q' s' b'), rB g10 80 ([.bool (decide (decH ((encH q' s' b').take k ++ (encH q s b).drop k))), .int .i64 (dV ((encH q' s' b').take k ++ (encH q s b).drop k) (hq ((encH q' s' b').take k ++ (encH q s b).drop k))), .int .i64 (dV ((encH q' s' b').take k ++ (encH q s b).drop k) (hs_ ((encH q' s' b').take k ++ (encH q s b).drop k))), .int .i64 (dV ((encH q' s' b').take k ++ (encH q s b).drop k) (hb_ ((encH q' s' b').take k ++ (encH q s b).drop k)))])]) mixed ?_ ?_
            · intro w23 c23
              have H14 : Hold w [] w23 [rB g5 42 ([.int .i64 q, .int .i64 s, .int .i64 b]), rB g6 42 ([.int .i64 q', .int .i64 s', .int .i64 b']), rR u8 eia ria (encH q s b), rR u8 eib rib (encH q' s' b')] := Hold.t H13 c23
              clear H13
              clear c23
              have H24d0 : Hold w23 [] w23 [] := Hold.start w23
              refine ⟨fun w' => Ch [] w23 w', Ch.refl _ _, ?_⟩
              obtain ⟨_, R25⟩ : ∃ F, Kd.R u8 w23 F rib (encH q' s' b') := Hold.row H14 3 rfl
              obtain ⟨_, R26⟩ : ∃ F, Kd.R u8 w23 F ria (encH q s b) := Hold.row H14 2 rfl
              refine edt 0 rfl (by kernel_rfl) (fun w' hS => mv y8) (edt 1 rfl (by kernel_rfl) (fun w' hS => mv y9) (edt 2 rfl (by kernel_rfl) (fun w' hS => slrh (k) Try.underlying40 ti5 (R25.t hS) rfl rfl (by omega)) (edt 3 rfl (by kernel_rfl) (fun w' hS => cvbss (ys := (encH q' s' b').take k) 0 k Try.underlying40 Try.underlying5 Try.underlying9 (R25.t hS) rfl (by omega) (by omega) rfl) (edt 4 rfl (by kernel_rfl) (fun w' hS => mv y7) (edt 5 rfl (by kernel_rfl) (fun w' hS => mv y9) (edt 6 rfl (by kernel_rfl) (fun w' hS => slrl (k) Try.underlying40 ti5 (R26.t hS) rfl rfl (by omega)) (edt 7 rfl (by kernel_rfl) (fun w' hS => cvbss (ys := (encH q s b).drop k) k (encH q s b).length Try.underlying40 Try.underlying5 Try.underlying9 (R26.t hS) rfl (by omega) (by omega) (by rw [List.take_length])) (edt 8 rfl (by kernel_rfl) (fun w' hS => sct rfl rfl (by rw [mkS_size, mkS_size]; simp; omega)) ?_))))))))
              refine ed2 9 11 (by kernel_rfl) ?_ ?_
              · refine euf rfl (cvsb Try.underlying9 Try.underlying40 Try.underlying5 rfl) ?_
                rintro v27 w27 ⟨⟨g27, e27, -, R27⟩, c27⟩
                have H15d : Hold w23 [] w27 [rT v27 (nums8 ((mkS ((encH q' s' b').take k)) ++ (mkS ((encH q s b).drop k))))] := Hold.newT H24d0 e27 R27 c27
                clear H24d0
                refine ⟨.inr (Hold.ch H15d), ?_⟩
                refine ed2 10 11 (by kernel_rfl) ?_ ?_
                · obtain ⟨_, T29⟩ := Hold.text H15d 0 rfl
                  refine euc rfl go62 (ac rfl an) (dec_mix T29 (ok8_take (ok8_encHx hh') _) (ok8_drop (ok8_encHx hh) _) (by simp; omega)) ?_
                  rintro r wz ⟨rfl, cz⟩
                  have H16d : Hold w23 [] wz [rT v27 (nums8 ((mkS ((encH q' s' b').take k)) ++ (mkS ((encH q s b).drop k))))] := Hold.t H15d cz
                  clear H15d
                  clear cz
                  refine ⟨.inr (Hold.ch H16d), ?_⟩
                  refine ed1 11 (by kernel_rfl) <| euf rfl (xal ti80) ?_
                  rintro _ w30 ⟨g10, e30, rfl, -, b30, c30⟩
                  have H17d : Hold w23 [] w30 [rT v27 (nums8 ((mkS ((encH q' s' b').take k)) ++ (mkS ((encH q s b).drop k)))), rB g10 80 ([.bool false, .int .i64 0, .int .i64 0, .int .i64 0])] := Hold.newB H16d e30 b30 c30
                  clear H16d
                  clear e30 b30 c30
                  refine ⟨.inr (Hold.ch H17d), ?_⟩
                  have H18 : Hold w [] w30 [rB g5 42 ([.int .i64 q, .int .i64 s, .int .i64 b]), rB g6 42 ([.int .i64 q', .int .i64 s', .int .i64 b']), rR u8 eia ria (encH q s b), rR u8 eib rib (encH q' s' b'), rT v27 (nums8 ((mkS ((encH q' s' b').take k)) ++ (mkS ((encH q s b).drop k)))), rB g10 80 ([.bool false, .int .i64 0, .int .i64 0, .int .i64 0])] := Hold.news H14 H17d
                  clear H17d H14
                  have b31 : B w30 g10 80 ([.bool false, .int .i64 0, .int .i64 0, .int .i64 0]) := Hold.blk H18 5 rfl
                  refine ed1 12 (by kernel_rfl) <| euf0 rfl (xst (vs := [.bool (decide (decH ((encH q' s' b').take k ++ (encH q s b).drop k))), .int .i64 (dV ((encH q' s' b').take k ++ (encH q s b).drop k) (hq ((encH q' s' b').take k ++ (encH q s b).drop k))), .int .i64 (dV ((encH q' s' b').take k ++ (encH q s b).drop k) (hs_ ((encH q' s' b').take k ++ (encH q s b).drop k))), .int .i64 (dV ((encH q' s' b').take k ++ (encH q s b).drop k) (hb_ ((encH q' s' b').take k ++ (encH q s b).drop k)))]) ti80 rfl rfl rfl b31 rfl (Nat.le_of_ble_eq_true rfl) (one_all rfl)) ?_
                  rintro w32 ⟨-, b32, c32⟩
                  have H19 : Hold w [] w32 [rB g5 42 ([.int .i64 q, .int .i64 s, .int .i64 b]), rB g6 42 ([.int .i64 q', .int .i64 s', .int .i64 b']), rR u8 eia ria (encH q s b), rR u8 eib rib (encH q' s' b'), rT v27 (nums8 ((mkS ((encH q' s' b').take k)) ++ (mkS ((encH q s b).drop k)))), rB g10 80 ([.bool (decide (decH ((encH q' s' b').take k ++ (encH q s b).drop k))), .int .i64 (dV ((encH q' s' b').take k ++ (encH q s b).drop k) (hq ((encH q' s' b').take k ++ (encH q s b).drop k))), .int .i64 (dV ((encH q' s' b').take k ++ (encH q s b).drop k) (hs_ ((encH q' s' b').take k ++ (encH q s b).drop k))), .int .i64 (dV ((encH q' s' b').take k ++ (encH q s b).drop k) (hb_ ((encH q' s' b').take k ++ (encH q s b).drop k)))])] := Hold.setB H18 5 rfl b32 c32 rfl
                  clear H18
                  clear b32 c32
                  refine ⟨.inl (by kernel_rfl), ?_⟩
                  refine edd (by kernel_rfl) ?_
                  have H20 : Hold w [] w32 [rB g5 42 ([.int .i64 q, .int .i64 s, .int .i64 b]), rB g6 42 ([.int .i64 q', .int .i64 s', .int .i64 b']), rR u8 eia ria (encH q s b), rR u8 eib rib (encH q' s' b'), rB g10 80 ([.bool (decide (decH ((encH q' s' b').take k ++ (encH q s b).drop k))), .int .i64 (dV ((encH q' s' b').take k ++ (encH q s b).drop k) (hq ((encH q' s' b').take k ++ (encH q s b).drop k))), .int .i64 (dV ((encH q' s' b').take k ++ (encH q s b).drop k) (hs_ ((encH q' s' b').take k ++ (encH q s b).drop k))), .int .i64 (dV ((encH q' s' b').take k ++ (encH q s b).drop k) (hb_ ((encH q' s' b').take k ++ (encH q s b).drop k)))])] := (show Hold w [] w32 ([rB g5 42 ([.int .i64 q, .int .i64 s, .int .i64 b]), rB g6 42 ([.int .i64 q', .int .i64 s', .int .i64 b']), rR u8 eia ria (encH q s b), rR u8 eib rib (encH q' s' b'), rB g10 80 ([.bool (decide (decH ((encH q' s' b').take k ++ (encH q s b).drop k))), .int .i64 (dV ((encH q' s' b').take k ++ (encH q s b).drop k) (hq ((encH q' s' b').take k ++ (encH q s b).drop k))), .int .i64 (dV ((encH q' s' b').take k ++ (encH q s b).drop k) (hs_ ((encH q' s' b').take k ++ (encH q s b).drop k))), .int .i64 (dV ((encH q' s' b').take k ++ (encH q s b).drop k) (hb_ ((encH q' s' b').take k ++ (encH q s b).drop k)))])] ++ [rT v27 (nums8 ((mkS ((encH q' s' b').take k)) ++ (mkS ((encH q s b).drop k))))]) from Hold.re H19 [0, 1, 2, 3, 5, 4] (by rfl) (by rfl)).drop
                  clear H19
                  exact ⟨g10, y5, y6, y7, y8, y9, rfl, H20⟩
                · refine euf rfl (xal ti80) ?_
                  rintro _ w28 ⟨g10, e28, rfl, -, b28, c28⟩
                  have H16d : Hold w23 [] w28 [rT v27 (nums8 ((mkS ((encH q' s' b').take k)) ++ (mkS ((encH q s b).drop k)))), rB g10 80 ([.bool false, .int .i64 0, .int .i64 0, .int .i64 0])] := Hold.newB H15d e28 b28 c28
                  clear H15d
                  clear e28 b28 c28
                  refine ⟨.inr (Hold.ch H16d), ?_⟩
                  obtain ⟨_, T30⟩ := Hold.text H16d 0 rfl
                  refine ed1 10 (by kernel_rfl) <| euc rfl go62 (ac rfl an) (dec_mix T30 (ok8_take (ok8_encHx hh') _) (ok8_drop (ok8_encHx hh) _) (by simp; omega)) ?_
                  rintro r wz ⟨rfl, cz⟩
                  have H17d : Hold w23 [] wz [rT v27 (nums8 ((mkS ((encH q' s' b').take k)) ++ (mkS ((encH q s b).drop k)))), rB g10 80 ([.bool false, .int .i64 0, .int .i64 0, .int .i64 0])] := Hold.t H16d cz
                  clear H16d
                  clear cz
                  refine ⟨.inr (Hold.ch H17d), ?_⟩
                  have H18 : Hold w [] wz [rB g5 42 ([.int .i64 q, .int .i64 s, .int .i64 b]), rB g6 42 ([.int .i64 q', .int .i64 s', .int .i64 b']), rR u8 eia ria (encH q s b), rR u8 eib rib (encH q' s' b'), rT v27 (nums8 ((mkS ((encH q' s' b').take k)) ++ (mkS ((encH q s b).drop k)))), rB g10 80 ([.bool false, .int .i64 0, .int .i64 0, .int .i64 0])] := Hold.news H14 H17d
                  clear H17d H14
                  have b31 : B wz g10 80 ([.bool false, .int .i64 0, .int .i64 0, .int .i64 0]) := Hold.blk H18 5 rfl
                  refine ed1 12 (by kernel_rfl) <| euf0 rfl (xst (vs := [.bool (decide (decH ((encH q' s' b').take k ++ (encH q s b).drop k))), .int .i64 (dV ((encH q' s' b').take k ++ (encH q s b).drop k) (hq ((encH q' s' b').take k ++ (encH q s b).drop k))), .int .i64 (dV ((encH q' s' b').take k ++ (encH q s b).drop k) (hs_ ((encH q' s' b').take k ++ (encH q s b).drop k))), .int .i64 (dV ((encH q' s' b').take k ++ (encH q s b).drop k) (hb_ ((encH q' s' b').take k ++ (encH q s b).drop k)))]) ti80 rfl rfl rfl b31 rfl (Nat.le_of_ble_eq_true rfl) (one_all rfl)) ?_
                  rintro w32 ⟨-, b32, c32⟩
                  have H19 : Hold w [] w32 [rB g5 42 ([.int .i64 q, .int .i64 s, .int .i64 b]), rB g6 42 ([.int .i64 q', .int .i64 s', .int .i64 b']), rR u8 eia ria (encH q s b), rR u8 eib rib (encH q' s' b'), rT v27 (nums8 ((mkS ((encH q' s' b').take k)) ++ (mkS ((encH q s b).drop k)))), rB g10 80 ([.bool (decide (decH ((encH q' s' b').take k ++ (encH q s b).drop k))), .int .i64 (dV ((encH q' s' b').take k ++ (encH q s b).drop k) (hq ((encH q' s' b').take k ++ (encH q s b).drop k))), .int .i64 (dV ((encH q' s' b').take k ++ (encH q s b).drop k) (hs_ ((encH q' s' b').take k ++ (encH q s b).drop k))), .int .i64 (dV ((encH q' s' b').take k ++ (encH q s b).drop k) (hb_ ((encH q' s' b').take k ++ (encH q s b).drop k)))])] := Hold.setB H18 5 rfl b32 c32 rfl
                  clear H18
                  clear b32 c32
                  refine ⟨.inl (by kernel_rfl), ?_⟩
                  refine edd (by kernel_rfl) ?_
                  have H20 : Hold w [] w32 [rB g5 42 ([.int .i64 q, .int .i64 s, .int .i64 b]), rB g6 42 ([.int .i64 q', .int .i64 s', .int .i64 b']), rR u8 eia ria (encH q s b), rR u8 eib rib (encH q' s' b'), rB g10 80 ([.bool (decide (decH ((encH q' s' b').take k ++ (encH q s b).drop k))), .int .i64 (dV ((encH q' s' b').take k ++ (encH q s b).drop k) (hq ((encH q' s' b').take k ++ (encH q s b).drop k))), .int .i64 (dV ((encH q' s' b').take k ++ (encH q s b).drop k) (hs_ ((encH q' s' b').take k ++ (encH q s b).drop k))), .int .i64 (dV ((encH q' s' b').take k ++ (encH q s b).drop k) (hb_ ((encH q' s' b').take k ++ (encH q s b).drop k)))])] := (show Hold w [] w32 ([rB g5 42 ([.int .i64 q, .int .i64 s, .int .i64 b]), rB g6 42 ([.int .i64 q', .int .i64 s', .int .i64 b']), rR u8 eia ria (encH q s b), rR u8 eib rib (encH q' s' b'), rB g10 80 ([.bool (decide (decH ((encH q' s' b').take k ++ (encH q s b).drop k))), .int .i64 (dV ((encH q' s' b').take k ++ (encH q s b).drop k) (hq ((encH q' s' b').take k ++ (encH q s b).drop k))), .int .i64 (dV ((encH q' s' b').take k ++ (encH q s b).drop k) (hs_ ((encH q' s' b').take k ++ (encH q s b).drop k))), .int .i64 (dV ((encH q' s' b').take k ++ (encH q s b).drop k) (hb_ ((encH q' s' b').take k ++ (encH q s b).drop k)))])] ++ [rT v27 (nums8 ((mkS ((encH q' s' b').take k)) ++ (mkS ((encH q s b).drop k))))]) from Hold.re H19 [0, 1, 2, 3, 5, 4] (by rfl) (by rfl)).drop
                  clear H19
                  exact ⟨g10, y5, y6, y7, y8, y9, rfl, H20⟩
              · refine euf rfl (xal ti80) ?_
                rintro _ w27 ⟨g10, e27, rfl, -, b27, c27⟩
                have H15d : Hold w23 [] w27 [rB g10 80 ([.bool false, .int .i64 0, .int .i64 0, .int .i64 0])] := Hold.newB H24d0 e27 b27 c27
                clear H24d0
                clear e27 b27 c27
                refine ⟨.inr (Hold.ch H15d), ?_⟩
                refine ed1 9 (by kernel_rfl) <| euf rfl (cvsb Try.underlying9 Try.underlying40 Try.underlying5 rfl) ?_
                rintro v28 w28 ⟨⟨g28, e28, -, R28⟩, c28⟩
                have H16d : Hold w23 [] w28 [rB g10 80 ([.bool false, .int .i64 0, .int .i64 0, .int .i64 0]), rT v28 (nums8 ((mkS ((encH q' s' b').take k)) ++ (mkS ((encH q s b).drop k))))] := Hold.newT H15d e28 R28 c28
                clear H15d
                refine ⟨.inr (Hold.ch H16d), ?_⟩
                obtain ⟨_, T30⟩ := Hold.text H16d 1 rfl
                refine ed1 10 (by kernel_rfl) <| euc rfl go62 (ac rfl an) (dec_mix T30 (ok8_take (ok8_encHx hh') _) (ok8_drop (ok8_encHx hh) _) (by simp; omega)) ?_
                rintro r wz ⟨rfl, cz⟩
                have H17d : Hold w23 [] wz [rB g10 80 ([.bool false, .int .i64 0, .int .i64 0, .int .i64 0]), rT v28 (nums8 ((mkS ((encH q' s' b').take k)) ++ (mkS ((encH q s b).drop k))))] := Hold.t H16d cz
                clear H16d
                clear cz
                refine ⟨.inr (Hold.ch H17d), ?_⟩
                have H18 : Hold w [] wz [rB g5 42 ([.int .i64 q, .int .i64 s, .int .i64 b]), rB g6 42 ([.int .i64 q', .int .i64 s', .int .i64 b']), rR u8 eia ria (encH q s b), rR u8 eib rib (encH q' s' b'), rB g10 80 ([.bool false, .int .i64 0, .int .i64 0, .int .i64 0]), rT v28 (nums8 ((mkS ((encH q' s' b').take k)) ++ (mkS ((encH q s b).drop k))))] := Hold.news H14 H17d
                clear H17d H14
                have b31 : B wz g10 80 ([.bool false, .int .i64 0, .int .i64 0, .int .i64 0]) := Hold.blk H18 4 rfl
                refine ed1 12 (by kernel_rfl) <| euf0 rfl (xst (vs := [.bool (decide (decH ((encH q' s' b').take k ++ (encH q s b).drop k))), .int .i64 (dV ((encH q' s' b').take k ++ (encH q s b).drop k) (hq ((encH q' s' b').take k ++ (encH q s b).drop k))), .int .i64 (dV ((encH q' s' b').take k ++ (encH q s b).drop k) (hs_ ((encH q' s' b').take k ++ (encH q s b).drop k))), .int .i64 (dV ((encH q' s' b').take k ++ (encH q s b).drop k) (hb_ ((encH q' s' b').take k ++ (encH q s b).drop k)))]) ti80 rfl rfl rfl b31 rfl (Nat.le_of_ble_eq_true rfl) (one_all rfl)) ?_
                rintro w32 ⟨-, b32, c32⟩
                have H19 : Hold w [] w32 [rB g5 42 ([.int .i64 q, .int .i64 s, .int .i64 b]), rB g6 42 ([.int .i64 q', .int .i64 s', .int .i64 b']), rR u8 eia ria (encH q s b), rR u8 eib rib (encH q' s' b'), rB g10 80 ([.bool (decide (decH ((encH q' s' b').take k ++ (encH q s b).drop k))), .int .i64 (dV ((encH q' s' b').take k ++ (encH q s b).drop k) (hq ((encH q' s' b').take k ++ (encH q s b).drop k))), .int .i64 (dV ((encH q' s' b').take k ++ (encH q s b).drop k) (hs_ ((encH q' s' b').take k ++ (encH q s b).drop k))), .int .i64 (dV ((encH q' s' b').take k ++ (encH q s b).drop k) (hb_ ((encH q' s' b').take k ++ (encH q s b).drop k)))]), rT v28 (nums8 ((mkS ((encH q' s' b').take k)) ++ (mkS ((encH q s b).drop k))))] := Hold.setB H18 4 rfl b32 c32 rfl
                clear H18
                clear b32 c32
                refine ⟨.inl (by kernel_rfl), ?_⟩
                refine edd (by kernel_rfl) ?_
                have H20 : Hold w [] w32 [rB g5 42 ([.int .i64 q, .int .i64 s, .int .i64 b]), rB g6 42 ([.int .i64 q', .int .i64 s', .int .i64 b']), rR u8 eia ria (encH q s b), rR u8 eib rib (encH q' s' b'), rB g10 80 ([.bool (decide (decH ((encH q' s' b').take k ++ (encH q s b).drop k))), .int .i64 (dV ((encH q' s' b').take k ++ (encH q s b).drop k) (hq ((encH q' s' b').take k ++ (encH q s b).drop k))), .int .i64 (dV ((encH q' s' b').take k ++ (encH q s b).drop k) (hs_ ((encH q' s' b').take k ++ (encH q s b).drop k))), .int .i64 (dV ((encH q' s' b').take k ++ (encH q s b).drop k) (hb_ ((encH q' s' b').take k ++ (encH q s b).drop k)))])] := (show Hold w [] w32 ([rB g5 42 ([.int .i64 q, .int .i64 s, .int .i64 b]), rB g6 42 ([.int .i64 q', .int .i64 s', .int .i64 b']), rR u8 eia ria (encH q s b), rR u8 eib rib (encH q' s' b'), rB g10 80 ([.bool (decide (decH ((encH q' s' b').take k ++ (encH q s b).drop k))), .int .i64 (dV ((encH q' s' b').take k ++ (encH q s b).drop k) (hq ((encH q' s' b').take k ++ (encH q s b).drop k))), .int .i64 (dV ((encH q' s' b').take k ++ (encH q s b).drop k) (hs_ ((encH q' s' b').take k ++ (encH q s b).drop k))), .int .i64 (dV ((encH q' s' b').take k ++ (encH q s b).drop k) (hb_ ((encH q' s' b').take k ++ (encH q s b).drop k)))])] ++ [rT v28 (nums8 ((mkS ((encH q' s' b').take k)) ++ (mkS ((encH q s b).drop k))))]) from Hold.re H19 [0, 1, 2, 3, 4, 5] (by rfl) (by rfl)).drop
                clear H19
                exact ⟨g10, y5, y6, y7, y8, y9, rfl, H20⟩
            rintro ρ w563 ⟨g10, y5, y6, y7, y8, y9, y10, H63⟩
            clear H13
            refine sq (sq (rg (r (mv y9) (r (bi rfl rfl rfl) (r (mv rfl) ?_)))))
            refine sp 70 rfl (fun h0 => ?_) (fun h0 => ?_)
            · have k0 : k = 0 := by omega
              have eM : ((encH q' s' b').take k ++ (encH q s b).drop k) = encH q s b := by rw [k0]; simp
              have hD : decH ((encH q' s' b').take k ++ (encH q s b).drop k) := by rw [eM]; exact encH_dec hh
              have e1 : (dV ((encH q' s' b').take k ++ (encH q s b).drop k) (hq ((encH q' s' b').take k ++ (encH q s b).drop k)), dV ((encH q' s' b').take k ++ (encH q s b).drop k) (hs_ ((encH q' s' b').take k ++ (encH q s b).drop k)), dV ((encH q' s' b').take k ++ (encH q s b).drop k) (hb_ ((encH q' s' b').take k ++ (encH q s b).drop k))) = (q, s, b) := by rw [eM, dV_yes (encH_dec hh), dV_yes (encH_dec hh), dV_yes (encH_dec hh), (encH_hq hh).1, (encH_hq hh).2.1, (encH_hq hh).2.2]
              have b127 : B w563 g10 80 ([.bool (decide (decH ((encH q' s' b').take k ++ (encH q s b).drop k))), .int .i64 (dV ((encH q' s' b').take k ++ (encH q s b).drop k) (hq ((encH q' s' b').take k ++ (encH q s b).drop k))), .int .i64 (dV ((encH q' s' b').take k ++ (encH q s b).drop k) (hs_ ((encH q' s' b').take k ++ (encH q s b).drop k))), .int .i64 (dV ((encH q' s' b').take k ++ (encH q s b).drop k) (hb_ ((encH q' s' b').take k ++ (encH q s b).drop k)))]) := Hold.blk H63 4 rfl
              refine gy rfl rfl rfl (r (fa Try.underlying80 rfl ti4 rfl y10) (gy rfl rfl rfl (r (ldb Try.underlying4 rfl rfl b127 rfl) (gy rfl rfl rfl (r (nt rfl) (gy rfl rfl rfl (r (mv rfl) ?_)))))))
              refine spf 74 rfl (show (!(decide (decH ((encH q' s' b').take k ++ (encH q s b).drop k)))) = false from (by rw [decide_eq_true hD]; rfl)) ?_
              have b128 : B w563 g5 42 ([.int .i64 q, .int .i64 s, .int .i64 b]) := Hold.blk H63 0 rfl
              refine gy rfl rfl rfl (r (fa Try.underlying80 rfl ti42 rfl y10) (gy rfl rfl rfl (r (lab [.int .i64 (dV ((encH q' s' b').take k ++ (encH q s b).drop k) (hq ((encH q' s' b').take k ++ (encH q s b).drop k))), .int .i64 (dV ((encH q' s' b').take k ++ (encH q s b).drop k) (hs_ ((encH q' s' b').take k ++ (encH q s b).drop k))), .int .i64 (dV ((encH q' s' b').take k ++ (encH q s b).drop k) (hb_ ((encH q' s' b').take k ++ (encH q s b).drop k)))] Try.underlying42 rfl ti42 rfl b127 rfl rfl) (gy rfl rfl rfl (r (lab [.int .i64 q, .int .i64 s, .int .i64 b] Try.underlying42 rfl ti42 y5 b128 rfl rfl) (gy rfl rfl rfl (r (sqn (by kernel_rfl) (fun _ => eqHdr) rfl rfl) (gy rfl rfl rfl (r (pk rfl rfl) (r (pk rfl rfl) (r (mv rfl) ?_)))))))))))
              refine spf 81 rfl (show (!decide ((dV ((encH q' s' b').take k ++ (encH q s b).drop k) (hq ((encH q' s' b').take k ++ (encH q s b).drop k)), dV ((encH q' s' b').take k ++ (encH q s b).drop k) (hs_ ((encH q' s' b').take k ++ (encH q s b).drop k)), dV ((encH q' s' b').take k ++ (encH q s b).drop k) (hb_ ((encH q' s' b').take k ++ (encH q s b).drop k))) = (q, s, b))) = false from (by rw [decide_eq_true e1]; rfl)) ?_
              refine gy rfl rfl rfl (r (mv y9) (gy rfl rfl rfl (r (bi rfl rfl rfl) (gy rfl rfl rfl (r (mv rfl) ?_)))))
              refine spf 84 rfl (show (decide ((k : Int) = 64)) = false from (decide_eq_false (by omega))) ?_
              refine gn rfl rfl rfl (gn rfl rfl rfl (gn rfl rfl rfl (gn rfl rfl rfl (gu rfl rfl rfl (gu rfl rfl rfl (gu rfl rfl rfl (gu rfl rfl rfl (gn rfl rfl rfl (gy rfl rfl rfl (r (pk rfl rfl) (r (pk rfl rfl) (re (cf rfl (sk (sq ?_)))))))))))))))
              refine gen (fun ρ => ρ 5 = .pointer (some ⟨g5, 0, none⟩) ∧ ρ 6 = .pointer (some ⟨g6, 0, none⟩) ∧ ρ 7 = ria ∧ ρ 8 = rib ∧ ρ 9 = .int .i64 (k : Int) ∧ ρ 10 = .pointer (some ⟨g10, 0, none⟩) ∧ True) ⟨y5, y6, y7, y8, y9, y10, trivial⟩ ?_
              rintro ρ ⟨z5, z6, z7, z8, z9, z10, -⟩
              have b129 : B w563 g6 42 ([.int .i64 q', .int .i64 s', .int .i64 b']) := Hold.blk H63 1 rfl
              refine rg (r (fa Try.underlying42 rfl ti2 rfl z5) (r (ldb Try.underlying2 rfl rfl b128 rfl) (r (fa Try.underlying42 rfl ti2 rfl z6) (r (ldb Try.underlying2 rfl rfl b129 rfl) (r (bi rfl rfl rfl) (r (mv rfl) ?_))))))
              refine spn 101 rfl (fun hne => ?_) (fun hne => ?_)
              · refine gy rfl rfl rfl (r (fa Try.underlying80 rfl ti4 rfl z10) (gy rfl rfl rfl (r (ldb Try.underlying4 rfl rfl b127 rfl) (r (pk rfl rfl) (r (mv rfl) ?_)))))
                refine sp 105 rfl (fun hG => ?_) (fun hG => ?_)
                · refine gy rfl rfl rfl (r (fa Try.underlying80 rfl ti42 rfl z10) (gy rfl rfl rfl (r (lab [.int .i64 (dV ((encH q' s' b').take k ++ (encH q s b).drop k) (hq ((encH q' s' b').take k ++ (encH q s b).drop k))), .int .i64 (dV ((encH q' s' b').take k ++ (encH q s b).drop k) (hs_ ((encH q' s' b').take k ++ (encH q s b).drop k))), .int .i64 (dV ((encH q' s' b').take k ++ (encH q s b).drop k) (hb_ ((encH q' s' b').take k ++ (encH q s b).drop k)))] Try.underlying42 rfl ti42 rfl b127 rfl rfl) (gy rfl rfl rfl (r (lab [.int .i64 q, .int .i64 s, .int .i64 b] Try.underlying42 rfl ti42 z5 b128 rfl rfl) (gy rfl rfl rfl (r (sqn (by kernel_rfl) (fun _ => eqHdr) rfl rfl) (r (pk rfl rfl) (r (mv rfl) ?_)))))))))
                  refine spn 111 rfl (fun hO => ?_) (fun hO => ?_)
                  · have hT := (torn hh hh' hk64 hG (fun e => hne e)).resolve_left (fun e => hO (by rw [dV_yes hG, dV_yes hG, dV_yes hG]; exact e))
                    refine gy rfl rfl rfl (r (fa Try.underlying80 rfl ti42 rfl z10) (gy rfl rfl rfl (r (lab [.int .i64 (dV ((encH q' s' b').take k ++ (encH q s b).drop k) (hq ((encH q' s' b').take k ++ (encH q s b).drop k))), .int .i64 (dV ((encH q' s' b').take k ++ (encH q s b).drop k) (hs_ ((encH q' s' b').take k ++ (encH q s b).drop k))), .int .i64 (dV ((encH q' s' b').take k ++ (encH q s b).drop k) (hb_ ((encH q' s' b').take k ++ (encH q s b).drop k)))] Try.underlying42 rfl ti42 rfl b127 rfl rfl) (gy rfl rfl rfl (r (lab [.int .i64 q', .int .i64 s', .int .i64 b'] Try.underlying42 rfl ti42 z6 b129 rfl rfl) (gy rfl rfl rfl (r (sqn (by kernel_rfl) (fun _ => eqHdr) rfl rfl) (r (pk rfl rfl) (re ?_)))))))))
                    refine cf ((rfl : _ = Value.bool (!decide ((dV ((encH q' s' b').take k ++ (encH q s b).drop k) (hq ((encH q' s' b').take k ++ (encH q s b).drop k)), dV ((encH q' s' b').take k ++ (encH q s b).drop k) (hs_ ((encH q' s' b').take k ++ (encH q s b).drop k)), dV ((encH q' s' b').take k ++ (encH q s b).drop k) (hb_ ((encH q' s' b').take k ++ (encH q s b).drop k))) = (q', s', b')))).trans (congrArg Value.bool (show (!decide ((dV ((encH q' s' b').take k ++ (encH q s b).drop k) (hq ((encH q' s' b').take k ++ (encH q s b).drop k)), dV ((encH q' s' b').take k ++ (encH q s b).drop k) (hs_ ((encH q' s' b').take k ++ (encH q s b).drop k)), dV ((encH q' s' b').take k ++ (encH q s b).drop k) (hb_ ((encH q' s' b').take k ++ (encH q s b).drop k))) = (q', s', b'))) = false from (by rw [decide_eq_true (by rw [dV_yes hG, dV_yes hG, dV_yes hG]; exact hT)]; rfl)))) ?_
                    refine sk (be ?_)
                    refine gen (fun ρ => ρ 5 = .pointer (some ⟨g5, 0, none⟩) ∧ ρ 6 = .pointer (some ⟨g6, 0, none⟩) ∧ ρ 7 = ria ∧ ρ 8 = rib ∧ ρ 9 = .int .i64 (k : Int) ∧ True) ⟨z5, z6, z7, z8, z9, trivial⟩ ?_
                    rintro ρ ⟨z5, z6, z7, z8, z9, -⟩
                    refine rg (r (mv z9) (r (ad (a := (k : Int)) (b := 1) ((k : Int) + 1) rfl rfl (by omega)) (r (sa rfl) (re ?_))))
                    have H64 : Hold w [] w563 [rB g5 42 ([.int .i64 q, .int .i64 s, .int .i64 b]), rB g6 42 ([.int .i64 q', .int .i64 s', .int .i64 b']), rR u8 eia ria (encH q s b), rR u8 eib rib (encH q' s' b')] := (show Hold w [] w563 ([rB g5 42 ([.int .i64 q, .int .i64 s, .int .i64 b]), rB g6 42 ([.int .i64 q', .int .i64 s', .int .i64 b']), rR u8 eia ria (encH q s b), rR u8 eib rib (encH q' s' b')] ++ [rB g10 80 ([.bool (decide (decH ((encH q' s' b').take k ++ (encH q s b).drop k))), .int .i64 (dV ((encH q' s' b').take k ++ (encH q s b).drop k) (hq ((encH q' s' b').take k ++ (encH q s b).drop k))), .int .i64 (dV ((encH q' s' b').take k ++ (encH q s b).drop k) (hs_ ((encH q' s' b').take k ++ (encH q s b).drop k))), .int .i64 (dV ((encH q' s' b').take k ++ (encH q s b).drop k) (hb_ ((encH q' s' b').take k ++ (encH q s b).drop k)))])]) from Hold.re H63 [0, 1, 2, 3, 4] (by rfl) (by rfl)).drop
                    clear H63
                    exact ag (k + 1) ⟨z5, z6, z7, z8, rfl, H64, by omega⟩ (by first | omega | (dsimp only; omega))
                  · refine gn rfl rfl rfl (gn rfl rfl rfl (gn rfl rfl rfl (gn rfl rfl rfl (r (pk rfl rfl) (re (cf rfl (sk (be ?_))))))))
                    refine gen (fun ρ => ρ 5 = .pointer (some ⟨g5, 0, none⟩) ∧ ρ 6 = .pointer (some ⟨g6, 0, none⟩) ∧ ρ 7 = ria ∧ ρ 8 = rib ∧ ρ 9 = .int .i64 (k : Int) ∧ True) ⟨z5, z6, z7, z8, z9, trivial⟩ ?_
                    rintro ρ ⟨z5, z6, z7, z8, z9, -⟩
                    refine rg (r (mv z9) (r (ad (a := (k : Int)) (b := 1) ((k : Int) + 1) rfl rfl (by omega)) (r (sa rfl) (re ?_))))
                    have H64 : Hold w [] w563 [rB g5 42 ([.int .i64 q, .int .i64 s, .int .i64 b]), rB g6 42 ([.int .i64 q', .int .i64 s', .int .i64 b']), rR u8 eia ria (encH q s b), rR u8 eib rib (encH q' s' b')] := (show Hold w [] w563 ([rB g5 42 ([.int .i64 q, .int .i64 s, .int .i64 b]), rB g6 42 ([.int .i64 q', .int .i64 s', .int .i64 b']), rR u8 eia ria (encH q s b), rR u8 eib rib (encH q' s' b')] ++ [rB g10 80 ([.bool (decide (decH ((encH q' s' b').take k ++ (encH q s b).drop k))), .int .i64 (dV ((encH q' s' b').take k ++ (encH q s b).drop k) (hq ((encH q' s' b').take k ++ (encH q s b).drop k))), .int .i64 (dV ((encH q' s' b').take k ++ (encH q s b).drop k) (hs_ ((encH q' s' b').take k ++ (encH q s b).drop k))), .int .i64 (dV ((encH q' s' b').take k ++ (encH q s b).drop k) (hb_ ((encH q' s' b').take k ++ (encH q s b).drop k)))])]) from Hold.re H63 [0, 1, 2, 3, 4] (by rfl) (by rfl)).drop
                    clear H63
                    exact ag (k + 1) ⟨z5, z6, z7, z8, rfl, H64, by omega⟩ (by first | omega | (dsimp only; omega))
                · refine gn rfl rfl rfl (gn rfl rfl rfl (gn rfl rfl rfl (gn rfl rfl rfl (r (pk rfl rfl) (r (mv rfl) (gn rfl rfl rfl (gn rfl rfl rfl (gn rfl rfl rfl (gn rfl rfl rfl (r (pk rfl rfl) (re (cf rfl (sk (be ?_))))))))))))))
                  refine gen (fun ρ => ρ 5 = .pointer (some ⟨g5, 0, none⟩) ∧ ρ 6 = .pointer (some ⟨g6, 0, none⟩) ∧ ρ 7 = ria ∧ ρ 8 = rib ∧ ρ 9 = .int .i64 (k : Int) ∧ True) ⟨z5, z6, z7, z8, z9, trivial⟩ ?_
                  rintro ρ ⟨z5, z6, z7, z8, z9, -⟩
                  refine rg (r (mv z9) (r (ad (a := (k : Int)) (b := 1) ((k : Int) + 1) rfl rfl (by omega)) (r (sa rfl) (re ?_))))
                  have H64 : Hold w [] w563 [rB g5 42 ([.int .i64 q, .int .i64 s, .int .i64 b]), rB g6 42 ([.int .i64 q', .int .i64 s', .int .i64 b']), rR u8 eia ria (encH q s b), rR u8 eib rib (encH q' s' b')] := (show Hold w [] w563 ([rB g5 42 ([.int .i64 q, .int .i64 s, .int .i64 b]), rB g6 42 ([.int .i64 q', .int .i64 s', .int .i64 b']), rR u8 eia ria (encH q s b), rR u8 eib rib (encH q' s' b')] ++ [rB g10 80 ([.bool (decide (decH ((encH q' s' b').take k ++ (encH q s b).drop k))), .int .i64 (dV ((encH q' s' b').take k ++ (encH q s b).drop k) (hq ((encH q' s' b').take k ++ (encH q s b).drop k))), .int .i64 (dV ((encH q' s' b').take k ++ (encH q s b).drop k) (hs_ ((encH q' s' b').take k ++ (encH q s b).drop k))), .int .i64 (dV ((encH q' s' b').take k ++ (encH q s b).drop k) (hb_ ((encH q' s' b').take k ++ (encH q s b).drop k)))])]) from Hold.re H63 [0, 1, 2, 3, 4] (by rfl) (by rfl)).drop
                  clear H63
                  exact ag (k + 1) ⟨z5, z6, z7, z8, rfl, H64, by omega⟩ (by first | omega | (dsimp only; omega))
              · refine gn rfl rfl rfl (gn rfl rfl rfl (r (pk rfl rfl) (r (mv rfl) (gn rfl rfl rfl (gn rfl rfl rfl (gn rfl rfl rfl (gn rfl rfl rfl (r (pk rfl rfl) (r (mv rfl) (gn rfl rfl rfl (gn rfl rfl rfl (gn rfl rfl rfl (gn rfl rfl rfl (r (pk rfl rfl) (re (cf rfl (sk (be ?_))))))))))))))))))
                refine gen (fun ρ => ρ 5 = .pointer (some ⟨g5, 0, none⟩) ∧ ρ 6 = .pointer (some ⟨g6, 0, none⟩) ∧ ρ 7 = ria ∧ ρ 8 = rib ∧ ρ 9 = .int .i64 (k : Int) ∧ True) ⟨z5, z6, z7, z8, z9, trivial⟩ ?_
                rintro ρ ⟨z5, z6, z7, z8, z9, -⟩
                refine rg (r (mv z9) (r (ad (a := (k : Int)) (b := 1) ((k : Int) + 1) rfl rfl (by omega)) (r (sa rfl) (re ?_))))
                have H64 : Hold w [] w563 [rB g5 42 ([.int .i64 q, .int .i64 s, .int .i64 b]), rB g6 42 ([.int .i64 q', .int .i64 s', .int .i64 b']), rR u8 eia ria (encH q s b), rR u8 eib rib (encH q' s' b')] := (show Hold w [] w563 ([rB g5 42 ([.int .i64 q, .int .i64 s, .int .i64 b]), rB g6 42 ([.int .i64 q', .int .i64 s', .int .i64 b']), rR u8 eia ria (encH q s b), rR u8 eib rib (encH q' s' b')] ++ [rB g10 80 ([.bool (decide (decH ((encH q' s' b').take k ++ (encH q s b).drop k))), .int .i64 (dV ((encH q' s' b').take k ++ (encH q s b).drop k) (hq ((encH q' s' b').take k ++ (encH q s b).drop k))), .int .i64 (dV ((encH q' s' b').take k ++ (encH q s b).drop k) (hs_ ((encH q' s' b').take k ++ (encH q s b).drop k))), .int .i64 (dV ((encH q' s' b').take k ++ (encH q s b).drop k) (hb_ ((encH q' s' b').take k ++ (encH q s b).drop k)))])]) from Hold.re H63 [0, 1, 2, 3, 4] (by rfl) (by rfl)).drop
                clear H63
                exact ag (k + 1) ⟨z5, z6, z7, z8, rfl, H64, by omega⟩ (by first | omega | (dsimp only; omega))
            · refine gn rfl rfl rfl (gn rfl rfl rfl (gn rfl rfl rfl (gn rfl rfl rfl (gu rfl rfl rfl (gu rfl rfl rfl (gu rfl rfl rfl (gu rfl rfl rfl (gn rfl rfl rfl (r (pk rfl rfl) (r (mv rfl) (gy rfl rfl rfl (r (mv y9) (gy rfl rfl rfl (r (bi rfl rfl rfl) (gy rfl rfl rfl (r (mv rfl) ?_))))))))))))))))
              refine sp 84 rfl (fun h64 => ?_) (fun h64 => ?_)
              · have k0 : k = 64 := by omega
                have eM : ((encH q' s' b').take k ++ (encH q s b).drop k) = encH q' s' b' := by rw [k0, List.take_of_length_le (by omega), List.drop_of_length_le (by omega), List.append_nil]
                have hD : decH ((encH q' s' b').take k ++ (encH q s b).drop k) := by rw [eM]; exact encH_dec hh'
                have e1 : (dV ((encH q' s' b').take k ++ (encH q s b).drop k) (hq ((encH q' s' b').take k ++ (encH q s b).drop k)), dV ((encH q' s' b').take k ++ (encH q s b).drop k) (hs_ ((encH q' s' b').take k ++ (encH q s b).drop k)), dV ((encH q' s' b').take k ++ (encH q s b).drop k) (hb_ ((encH q' s' b').take k ++ (encH q s b).drop k))) = (q', s', b') := by rw [eM, dV_yes (encH_dec hh'), dV_yes (encH_dec hh'), dV_yes (encH_dec hh'), (encH_hq hh').1, (encH_hq hh').2.1, (encH_hq hh').2.2]
                have b127 : B w563 g10 80 ([.bool (decide (decH ((encH q' s' b').take k ++ (encH q s b).drop k))), .int .i64 (dV ((encH q' s' b').take k ++ (encH q s b).drop k) (hq ((encH q' s' b').take k ++ (encH q s b).drop k))), .int .i64 (dV ((encH q' s' b').take k ++ (encH q s b).drop k) (hs_ ((encH q' s' b').take k ++ (encH q s b).drop k))), .int .i64 (dV ((encH q' s' b').take k ++ (encH q s b).drop k) (hb_ ((encH q' s' b').take k ++ (encH q s b).drop k)))]) := Hold.blk H63 4 rfl
                refine gy rfl rfl rfl (r (fa Try.underlying80 rfl ti4 rfl y10) (gy rfl rfl rfl (r (ldb Try.underlying4 rfl rfl b127 rfl) (gy rfl rfl rfl (r (nt rfl) (gy rfl rfl rfl (r (mv rfl) ?_)))))))
                refine spf 88 rfl (show (!(decide (decH ((encH q' s' b').take k ++ (encH q s b).drop k)))) = false from (by rw [decide_eq_true hD]; rfl)) ?_
                have b128 : B w563 g6 42 ([.int .i64 q', .int .i64 s', .int .i64 b']) := Hold.blk H63 1 rfl
                refine gy rfl rfl rfl (r (fa Try.underlying80 rfl ti42 rfl y10) (gy rfl rfl rfl (r (lab [.int .i64 (dV ((encH q' s' b').take k ++ (encH q s b).drop k) (hq ((encH q' s' b').take k ++ (encH q s b).drop k))), .int .i64 (dV ((encH q' s' b').take k ++ (encH q s b).drop k) (hs_ ((encH q' s' b').take k ++ (encH q s b).drop k))), .int .i64 (dV ((encH q' s' b').take k ++ (encH q s b).drop k) (hb_ ((encH q' s' b').take k ++ (encH q s b).drop k)))] Try.underlying42 rfl ti42 rfl b127 rfl rfl) (gy rfl rfl rfl (r (lab [.int .i64 q', .int .i64 s', .int .i64 b'] Try.underlying42 rfl ti42 y6 b128 rfl rfl) (gy rfl rfl rfl (r (sqn (by kernel_rfl) (fun _ => eqHdr) rfl rfl) (gy rfl rfl rfl (r (pk rfl rfl) (gy rfl rfl rfl (r (pk rfl rfl) (r (pk rfl rfl) (re ?_)))))))))))))
                refine cf ((rfl : _ = Value.bool (!decide ((dV ((encH q' s' b').take k ++ (encH q s b).drop k) (hq ((encH q' s' b').take k ++ (encH q s b).drop k)), dV ((encH q' s' b').take k ++ (encH q s b).drop k) (hs_ ((encH q' s' b').take k ++ (encH q s b).drop k)), dV ((encH q' s' b').take k ++ (encH q s b).drop k) (hb_ ((encH q' s' b').take k ++ (encH q s b).drop k))) = (q', s', b')))).trans (congrArg Value.bool (show (!decide ((dV ((encH q' s' b').take k ++ (encH q s b).drop k) (hq ((encH q' s' b').take k ++ (encH q s b).drop k)), dV ((encH q' s' b').take k ++ (encH q s b).drop k) (hs_ ((encH q' s' b').take k ++ (encH q s b).drop k)), dV ((encH q' s' b').take k ++ (encH q s b).drop k) (hb_ ((encH q' s' b').take k ++ (encH q s b).drop k))) = (q', s', b'))) = false from (by rw [decide_eq_true e1]; rfl)))) ?_
                refine sk (sq ?_)
                refine gen (fun ρ => ρ 5 = .pointer (some ⟨g5, 0, none⟩) ∧ ρ 6 = .pointer (some ⟨g6, 0, none⟩) ∧ ρ 7 = ria ∧ ρ 8 = rib ∧ ρ 9 = .int .i64 (k : Int) ∧ ρ 10 = .pointer (some ⟨g10, 0, none⟩) ∧ True) ⟨y5, y6, y7, y8, y9, y10, trivial⟩ ?_
                rintro ρ ⟨z5, z6, z7, z8, z9, z10, -⟩
                have b129 : B w563 g5 42 ([.int .i64 q, .int .i64 s, .int .i64 b]) := Hold.blk H63 0 rfl
                refine rg (r (fa Try.underlying42 rfl ti2 rfl z5) (r (ldb Try.underlying2 rfl rfl b129 rfl) (r (fa Try.underlying42 rfl ti2 rfl z6) (r (ldb Try.underlying2 rfl rfl b128 rfl) (r (bi rfl rfl rfl) (r (mv rfl) ?_))))))
                refine spn 101 rfl (fun hne => ?_) (fun hne => ?_)
                · refine gy rfl rfl rfl (r (fa Try.underlying80 rfl ti4 rfl z10) (gy rfl rfl rfl (r (ldb Try.underlying4 rfl rfl b127 rfl) (r (pk rfl rfl) (r (mv rfl) ?_)))))
                  refine sp 105 rfl (fun hG => ?_) (fun hG => ?_)
                  · refine gy rfl rfl rfl (r (fa Try.underlying80 rfl ti42 rfl z10) (gy rfl rfl rfl (r (lab [.int .i64 (dV ((encH q' s' b').take k ++ (encH q s b).drop k) (hq ((encH q' s' b').take k ++ (encH q s b).drop k))), .int .i64 (dV ((encH q' s' b').take k ++ (encH q s b).drop k) (hs_ ((encH q' s' b').take k ++ (encH q s b).drop k))), .int .i64 (dV ((encH q' s' b').take k ++ (encH q s b).drop k) (hb_ ((encH q' s' b').take k ++ (encH q s b).drop k)))] Try.underlying42 rfl ti42 rfl b127 rfl rfl) (gy rfl rfl rfl (r (lab [.int .i64 q, .int .i64 s, .int .i64 b] Try.underlying42 rfl ti42 z5 b129 rfl rfl) (gy rfl rfl rfl (r (sqn (by kernel_rfl) (fun _ => eqHdr) rfl rfl) (r (pk rfl rfl) (r (mv rfl) ?_)))))))))
                    refine spn 111 rfl (fun hO => ?_) (fun hO => ?_)
                    · have hT := (torn hh hh' hk64 hG (fun e => hne e)).resolve_left (fun e => hO (by rw [dV_yes hG, dV_yes hG, dV_yes hG]; exact e))
                      refine gy rfl rfl rfl (r (fa Try.underlying80 rfl ti42 rfl z10) (gy rfl rfl rfl (r (lab [.int .i64 (dV ((encH q' s' b').take k ++ (encH q s b).drop k) (hq ((encH q' s' b').take k ++ (encH q s b).drop k))), .int .i64 (dV ((encH q' s' b').take k ++ (encH q s b).drop k) (hs_ ((encH q' s' b').take k ++ (encH q s b).drop k))), .int .i64 (dV ((encH q' s' b').take k ++ (encH q s b).drop k) (hb_ ((encH q' s' b').take k ++ (encH q s b).drop k)))] Try.underlying42 rfl ti42 rfl b127 rfl rfl) (gy rfl rfl rfl (r (lab [.int .i64 q', .int .i64 s', .int .i64 b'] Try.underlying42 rfl ti42 z6 b128 rfl rfl) (gy rfl rfl rfl (r (sqn (by kernel_rfl) (fun _ => eqHdr) rfl rfl) (r (pk rfl rfl) (re ?_)))))))))
                      refine cf ((rfl : _ = Value.bool (!decide ((dV ((encH q' s' b').take k ++ (encH q s b).drop k) (hq ((encH q' s' b').take k ++ (encH q s b).drop k)), dV ((encH q' s' b').take k ++ (encH q s b).drop k) (hs_ ((encH q' s' b').take k ++ (encH q s b).drop k)), dV ((encH q' s' b').take k ++ (encH q s b).drop k) (hb_ ((encH q' s' b').take k ++ (encH q s b).drop k))) = (q', s', b')))).trans (congrArg Value.bool (show (!decide ((dV ((encH q' s' b').take k ++ (encH q s b).drop k) (hq ((encH q' s' b').take k ++ (encH q s b).drop k)), dV ((encH q' s' b').take k ++ (encH q s b).drop k) (hs_ ((encH q' s' b').take k ++ (encH q s b).drop k)), dV ((encH q' s' b').take k ++ (encH q s b).drop k) (hb_ ((encH q' s' b').take k ++ (encH q s b).drop k))) = (q', s', b'))) = false from (by rw [decide_eq_true (by rw [dV_yes hG, dV_yes hG, dV_yes hG]; exact hT)]; rfl)))) ?_
                      refine sk (be ?_)
                      refine gen (fun ρ => ρ 5 = .pointer (some ⟨g5, 0, none⟩) ∧ ρ 6 = .pointer (some ⟨g6, 0, none⟩) ∧ ρ 7 = ria ∧ ρ 8 = rib ∧ ρ 9 = .int .i64 (k : Int) ∧ True) ⟨z5, z6, z7, z8, z9, trivial⟩ ?_
                      rintro ρ ⟨z5, z6, z7, z8, z9, -⟩
                      refine rg (r (mv z9) (r (ad (a := (k : Int)) (b := 1) ((k : Int) + 1) rfl rfl (by omega)) (r (sa rfl) (re ?_))))
                      have H64 : Hold w [] w563 [rB g5 42 ([.int .i64 q, .int .i64 s, .int .i64 b]), rB g6 42 ([.int .i64 q', .int .i64 s', .int .i64 b']), rR u8 eia ria (encH q s b), rR u8 eib rib (encH q' s' b')] := (show Hold w [] w563 ([rB g5 42 ([.int .i64 q, .int .i64 s, .int .i64 b]), rB g6 42 ([.int .i64 q', .int .i64 s', .int .i64 b']), rR u8 eia ria (encH q s b), rR u8 eib rib (encH q' s' b')] ++ [rB g10 80 ([.bool (decide (decH ((encH q' s' b').take k ++ (encH q s b).drop k))), .int .i64 (dV ((encH q' s' b').take k ++ (encH q s b).drop k) (hq ((encH q' s' b').take k ++ (encH q s b).drop k))), .int .i64 (dV ((encH q' s' b').take k ++ (encH q s b).drop k) (hs_ ((encH q' s' b').take k ++ (encH q s b).drop k))), .int .i64 (dV ((encH q' s' b').take k ++ (encH q s b).drop k) (hb_ ((encH q' s' b').take k ++ (encH q s b).drop k)))])]) from Hold.re H63 [0, 1, 2, 3, 4] (by rfl) (by rfl)).drop
                      clear H63
                      exact ag (k + 1) ⟨z5, z6, z7, z8, rfl, H64, by omega⟩ (by first | omega | (dsimp only; omega))
                    · refine gn rfl rfl rfl (gn rfl rfl rfl (gn rfl rfl rfl (gn rfl rfl rfl (r (pk rfl rfl) (re (cf rfl (sk (be ?_))))))))
                      refine gen (fun ρ => ρ 5 = .pointer (some ⟨g5, 0, none⟩) ∧ ρ 6 = .pointer (some ⟨g6, 0, none⟩) ∧ ρ 7 = ria ∧ ρ 8 = rib ∧ ρ 9 = .int .i64 (k : Int) ∧ True) ⟨z5, z6, z7, z8, z9, trivial⟩ ?_
                      rintro ρ ⟨z5, z6, z7, z8, z9, -⟩
                      refine rg (r (mv z9) (r (ad (a := (k : Int)) (b := 1) ((k : Int) + 1) rfl rfl (by omega)) (r (sa rfl) (re ?_))))
                      have H64 : Hold w [] w563 [rB g5 42 ([.int .i64 q, .int .i64 s, .int .i64 b]), rB g6 42 ([.int .i64 q', .int .i64 s', .int .i64 b']), rR u8 eia ria (encH q s b), rR u8 eib rib (encH q' s' b')] := (show Hold w [] w563 ([rB g5 42 ([.int .i64 q, .int .i64 s, .int .i64 b]), rB g6 42 ([.int .i64 q', .int .i64 s', .int .i64 b']), rR u8 eia ria (encH q s b), rR u8 eib rib (encH q' s' b')] ++ [rB g10 80 ([.bool (decide (decH ((encH q' s' b').take k ++ (encH q s b).drop k))), .int .i64 (dV ((encH q' s' b').take k ++ (encH q s b).drop k) (hq ((encH q' s' b').take k ++ (encH q s b).drop k))), .int .i64 (dV ((encH q' s' b').take k ++ (encH q s b).drop k) (hs_ ((encH q' s' b').take k ++ (encH q s b).drop k))), .int .i64 (dV ((encH q' s' b').take k ++ (encH q s b).drop k) (hb_ ((encH q' s' b').take k ++ (encH q s b).drop k)))])]) from Hold.re H63 [0, 1, 2, 3, 4] (by rfl) (by rfl)).drop
                      clear H63
                      exact ag (k + 1) ⟨z5, z6, z7, z8, rfl, H64, by omega⟩ (by first | omega | (dsimp only; omega))
                  · refine gn rfl rfl rfl (gn rfl rfl rfl (gn rfl rfl rfl (gn rfl rfl rfl (r (pk rfl rfl) (r (mv rfl) (gn rfl rfl rfl (gn rfl rfl rfl (gn rfl rfl rfl (gn rfl rfl rfl (r (pk rfl rfl) (re (cf rfl (sk (be ?_))))))))))))))
                    refine gen (fun ρ => ρ 5 = .pointer (some ⟨g5, 0, none⟩) ∧ ρ 6 = .pointer (some ⟨g6, 0, none⟩) ∧ ρ 7 = ria ∧ ρ 8 = rib ∧ ρ 9 = .int .i64 (k : Int) ∧ True) ⟨z5, z6, z7, z8, z9, trivial⟩ ?_
                    rintro ρ ⟨z5, z6, z7, z8, z9, -⟩
                    refine rg (r (mv z9) (r (ad (a := (k : Int)) (b := 1) ((k : Int) + 1) rfl rfl (by omega)) (r (sa rfl) (re ?_))))
                    have H64 : Hold w [] w563 [rB g5 42 ([.int .i64 q, .int .i64 s, .int .i64 b]), rB g6 42 ([.int .i64 q', .int .i64 s', .int .i64 b']), rR u8 eia ria (encH q s b), rR u8 eib rib (encH q' s' b')] := (show Hold w [] w563 ([rB g5 42 ([.int .i64 q, .int .i64 s, .int .i64 b]), rB g6 42 ([.int .i64 q', .int .i64 s', .int .i64 b']), rR u8 eia ria (encH q s b), rR u8 eib rib (encH q' s' b')] ++ [rB g10 80 ([.bool (decide (decH ((encH q' s' b').take k ++ (encH q s b).drop k))), .int .i64 (dV ((encH q' s' b').take k ++ (encH q s b).drop k) (hq ((encH q' s' b').take k ++ (encH q s b).drop k))), .int .i64 (dV ((encH q' s' b').take k ++ (encH q s b).drop k) (hs_ ((encH q' s' b').take k ++ (encH q s b).drop k))), .int .i64 (dV ((encH q' s' b').take k ++ (encH q s b).drop k) (hb_ ((encH q' s' b').take k ++ (encH q s b).drop k)))])]) from Hold.re H63 [0, 1, 2, 3, 4] (by rfl) (by rfl)).drop
                    clear H63
                    exact ag (k + 1) ⟨z5, z6, z7, z8, rfl, H64, by omega⟩ (by first | omega | (dsimp only; omega))
                · refine gn rfl rfl rfl (gn rfl rfl rfl (r (pk rfl rfl) (r (mv rfl) (gn rfl rfl rfl (gn rfl rfl rfl (gn rfl rfl rfl (gn rfl rfl rfl (r (pk rfl rfl) (r (mv rfl) (gn rfl rfl rfl (gn rfl rfl rfl (gn rfl rfl rfl (gn rfl rfl rfl (r (pk rfl rfl) (re (cf rfl (sk (be ?_))))))))))))))))))
                  refine gen (fun ρ => ρ 5 = .pointer (some ⟨g5, 0, none⟩) ∧ ρ 6 = .pointer (some ⟨g6, 0, none⟩) ∧ ρ 7 = ria ∧ ρ 8 = rib ∧ ρ 9 = .int .i64 (k : Int) ∧ True) ⟨z5, z6, z7, z8, z9, trivial⟩ ?_
                  rintro ρ ⟨z5, z6, z7, z8, z9, -⟩
                  refine rg (r (mv z9) (r (ad (a := (k : Int)) (b := 1) ((k : Int) + 1) rfl rfl (by omega)) (r (sa rfl) (re ?_))))
                  have H64 : Hold w [] w563 [rB g5 42 ([.int .i64 q, .int .i64 s, .int .i64 b]), rB g6 42 ([.int .i64 q', .int .i64 s', .int .i64 b']), rR u8 eia ria (encH q s b), rR u8 eib rib (encH q' s' b')] := (show Hold w [] w563 ([rB g5 42 ([.int .i64 q, .int .i64 s, .int .i64 b]), rB g6 42 ([.int .i64 q', .int .i64 s', .int .i64 b']), rR u8 eia ria (encH q s b), rR u8 eib rib (encH q' s' b')] ++ [rB g10 80 ([.bool (decide (decH ((encH q' s' b').take k ++ (encH q s b).drop k))), .int .i64 (dV ((encH q' s' b').take k ++ (encH q s b).drop k) (hq ((encH q' s' b').take k ++ (encH q s b).drop k))), .int .i64 (dV ((encH q' s' b').take k ++ (encH q s b).drop k) (hs_ ((encH q' s' b').take k ++ (encH q s b).drop k))), .int .i64 (dV ((encH q' s' b').take k ++ (encH q s b).drop k) (hb_ ((encH q' s' b').take k ++ (encH q s b).drop k)))])]) from Hold.re H63 [0, 1, 2, 3, 4] (by rfl) (by rfl)).drop
                  clear H63
                  exact ag (k + 1) ⟨z5, z6, z7, z8, rfl, H64, by omega⟩ (by first | omega | (dsimp only; omega))
              · refine gn rfl rfl rfl (gn rfl rfl rfl (gn rfl rfl rfl (gn rfl rfl rfl (gu rfl rfl rfl (gu rfl rfl rfl (gu rfl rfl rfl (gu rfl rfl rfl (gn rfl rfl rfl (gy rfl rfl rfl (r (pk rfl rfl) (r (pk rfl rfl) (re (cf rfl (sk (sq ?_)))))))))))))))
                refine gen (fun ρ => ρ 5 = .pointer (some ⟨g5, 0, none⟩) ∧ ρ 6 = .pointer (some ⟨g6, 0, none⟩) ∧ ρ 7 = ria ∧ ρ 8 = rib ∧ ρ 9 = .int .i64 (k : Int) ∧ ρ 10 = .pointer (some ⟨g10, 0, none⟩) ∧ True) ⟨y5, y6, y7, y8, y9, y10, trivial⟩ ?_
                rintro ρ ⟨z5, z6, z7, z8, z9, z10, -⟩
                have b127 : B w563 g5 42 ([.int .i64 q, .int .i64 s, .int .i64 b]) := Hold.blk H63 0 rfl
                have b128 : B w563 g6 42 ([.int .i64 q', .int .i64 s', .int .i64 b']) := Hold.blk H63 1 rfl
                refine rg (r (fa Try.underlying42 rfl ti2 rfl z5) (r (ldb Try.underlying2 rfl rfl b127 rfl) (r (fa Try.underlying42 rfl ti2 rfl z6) (r (ldb Try.underlying2 rfl rfl b128 rfl) (r (bi rfl rfl rfl) (r (mv rfl) ?_))))))
                refine spn 101 rfl (fun hne => ?_) (fun hne => ?_)
                · have b129 : B w563 g10 80 ([.bool (decide (decH ((encH q' s' b').take k ++ (encH q s b).drop k))), .int .i64 (dV ((encH q' s' b').take k ++ (encH q s b).drop k) (hq ((encH q' s' b').take k ++ (encH q s b).drop k))), .int .i64 (dV ((encH q' s' b').take k ++ (encH q s b).drop k) (hs_ ((encH q' s' b').take k ++ (encH q s b).drop k))), .int .i64 (dV ((encH q' s' b').take k ++ (encH q s b).drop k) (hb_ ((encH q' s' b').take k ++ (encH q s b).drop k)))]) := Hold.blk H63 4 rfl
                  refine gy rfl rfl rfl (r (fa Try.underlying80 rfl ti4 rfl z10) (gy rfl rfl rfl (r (ldb Try.underlying4 rfl rfl b129 rfl) (r (pk rfl rfl) (r (mv rfl) ?_)))))
                  refine sp 105 rfl (fun hG => ?_) (fun hG => ?_)
                  · refine gy rfl rfl rfl (r (fa Try.underlying80 rfl ti42 rfl z10) (gy rfl rfl rfl (r (lab [.int .i64 (dV ((encH q' s' b').take k ++ (encH q s b).drop k) (hq ((encH q' s' b').take k ++ (encH q s b).drop k))), .int .i64 (dV ((encH q' s' b').take k ++ (encH q s b).drop k) (hs_ ((encH q' s' b').take k ++ (encH q s b).drop k))), .int .i64 (dV ((encH q' s' b').take k ++ (encH q s b).drop k) (hb_ ((encH q' s' b').take k ++ (encH q s b).drop k)))] Try.underlying42 rfl ti42 rfl b129 rfl rfl) (gy rfl rfl rfl (r (lab [.int .i64 q, .int .i64 s, .int .i64 b] Try.underlying42 rfl ti42 z5 b127 rfl rfl) (gy rfl rfl rfl (r (sqn (by kernel_rfl) (fun _ => eqHdr) rfl rfl) (r (pk rfl rfl) (r (mv rfl) ?_)))))))))
                    refine spn 111 rfl (fun hO => ?_) (fun hO => ?_)
                    · have hT := (torn hh hh' hk64 hG (fun e => hne e)).resolve_left (fun e => hO (by rw [dV_yes hG, dV_yes hG, dV_yes hG]; exact e))
                      refine gy rfl rfl rfl (r (fa Try.underlying80 rfl ti42 rfl z10) (gy rfl rfl rfl (r (lab [.int .i64 (dV ((encH q' s' b').take k ++ (encH q s b).drop k) (hq ((encH q' s' b').take k ++ (encH q s b).drop k))), .int .i64 (dV ((encH q' s' b').take k ++ (encH q s b).drop k) (hs_ ((encH q' s' b').take k ++ (encH q s b).drop k))), .int .i64 (dV ((encH q' s' b').take k ++ (encH q s b).drop k) (hb_ ((encH q' s' b').take k ++ (encH q s b).drop k)))] Try.underlying42 rfl ti42 rfl b129 rfl rfl) (gy rfl rfl rfl (r (lab [.int .i64 q', .int .i64 s', .int .i64 b'] Try.underlying42 rfl ti42 z6 b128 rfl rfl) (gy rfl rfl rfl (r (sqn (by kernel_rfl) (fun _ => eqHdr) rfl rfl) (r (pk rfl rfl) (re ?_)))))))))
                      refine cf ((rfl : _ = Value.bool (!decide ((dV ((encH q' s' b').take k ++ (encH q s b).drop k) (hq ((encH q' s' b').take k ++ (encH q s b).drop k)), dV ((encH q' s' b').take k ++ (encH q s b).drop k) (hs_ ((encH q' s' b').take k ++ (encH q s b).drop k)), dV ((encH q' s' b').take k ++ (encH q s b).drop k) (hb_ ((encH q' s' b').take k ++ (encH q s b).drop k))) = (q', s', b')))).trans (congrArg Value.bool (show (!decide ((dV ((encH q' s' b').take k ++ (encH q s b).drop k) (hq ((encH q' s' b').take k ++ (encH q s b).drop k)), dV ((encH q' s' b').take k ++ (encH q s b).drop k) (hs_ ((encH q' s' b').take k ++ (encH q s b).drop k)), dV ((encH q' s' b').take k ++ (encH q s b).drop k) (hb_ ((encH q' s' b').take k ++ (encH q s b).drop k))) = (q', s', b'))) = false from (by rw [decide_eq_true (by rw [dV_yes hG, dV_yes hG, dV_yes hG]; exact hT)]; rfl)))) ?_
                      refine sk (be ?_)
                      refine gen (fun ρ => ρ 5 = .pointer (some ⟨g5, 0, none⟩) ∧ ρ 6 = .pointer (some ⟨g6, 0, none⟩) ∧ ρ 7 = ria ∧ ρ 8 = rib ∧ ρ 9 = .int .i64 (k : Int) ∧ True) ⟨z5, z6, z7, z8, z9, trivial⟩ ?_
                      rintro ρ ⟨z5, z6, z7, z8, z9, -⟩
                      refine rg (r (mv z9) (r (ad (a := (k : Int)) (b := 1) ((k : Int) + 1) rfl rfl (by omega)) (r (sa rfl) (re ?_))))
                      have H64 : Hold w [] w563 [rB g5 42 ([.int .i64 q, .int .i64 s, .int .i64 b]), rB g6 42 ([.int .i64 q', .int .i64 s', .int .i64 b']), rR u8 eia ria (encH q s b), rR u8 eib rib (encH q' s' b')] := (show Hold w [] w563 ([rB g5 42 ([.int .i64 q, .int .i64 s, .int .i64 b]), rB g6 42 ([.int .i64 q', .int .i64 s', .int .i64 b']), rR u8 eia ria (encH q s b), rR u8 eib rib (encH q' s' b')] ++ [rB g10 80 ([.bool (decide (decH ((encH q' s' b').take k ++ (encH q s b).drop k))), .int .i64 (dV ((encH q' s' b').take k ++ (encH q s b).drop k) (hq ((encH q' s' b').take k ++ (encH q s b).drop k))), .int .i64 (dV ((encH q' s' b').take k ++ (encH q s b).drop k) (hs_ ((encH q' s' b').take k ++ (encH q s b).drop k))), .int .i64 (dV ((encH q' s' b').take k ++ (encH q s b).drop k) (hb_ ((encH q' s' b').take k ++ (encH q s b).drop k)))])]) from Hold.re H63 [0, 1, 2, 3, 4] (by rfl) (by rfl)).drop
                      clear H63
                      exact ag (k + 1) ⟨z5, z6, z7, z8, rfl, H64, by omega⟩ (by first | omega | (dsimp only; omega))
                    · refine gn rfl rfl rfl (gn rfl rfl rfl (gn rfl rfl rfl (gn rfl rfl rfl (r (pk rfl rfl) (re (cf rfl (sk (be ?_))))))))
                      refine gen (fun ρ => ρ 5 = .pointer (some ⟨g5, 0, none⟩) ∧ ρ 6 = .pointer (some ⟨g6, 0, none⟩) ∧ ρ 7 = ria ∧ ρ 8 = rib ∧ ρ 9 = .int .i64 (k : Int) ∧ True) ⟨z5, z6, z7, z8, z9, trivial⟩ ?_
                      rintro ρ ⟨z5, z6, z7, z8, z9, -⟩
                      refine rg (r (mv z9) (r (ad (a := (k : Int)) (b := 1) ((k : Int) + 1) rfl rfl (by omega)) (r (sa rfl) (re ?_))))
                      have H64 : Hold w [] w563 [rB g5 42 ([.int .i64 q, .int .i64 s, .int .i64 b]), rB g6 42 ([.int .i64 q', .int .i64 s', .int .i64 b']), rR u8 eia ria (encH q s b), rR u8 eib rib (encH q' s' b')] := (show Hold w [] w563 ([rB g5 42 ([.int .i64 q, .int .i64 s, .int .i64 b]), rB g6 42 ([.int .i64 q', .int .i64 s', .int .i64 b']), rR u8 eia ria (encH q s b), rR u8 eib rib (encH q' s' b')] ++ [rB g10 80 ([.bool (decide (decH ((encH q' s' b').take k ++ (encH q s b).drop k))), .int .i64 (dV ((encH q' s' b').take k ++ (encH q s b).drop k) (hq ((encH q' s' b').take k ++ (encH q s b).drop k))), .int .i64 (dV ((encH q' s' b').take k ++ (encH q s b).drop k) (hs_ ((encH q' s' b').take k ++ (encH q s b).drop k))), .int .i64 (dV ((encH q' s' b').take k ++ (encH q s b).drop k) (hb_ ((encH q' s' b').take k ++ (encH q s b).drop k)))])]) from Hold.re H63 [0, 1, 2, 3, 4] (by rfl) (by rfl)).drop
                      clear H63
                      exact ag (k + 1) ⟨z5, z6, z7, z8, rfl, H64, by omega⟩ (by first | omega | (dsimp only; omega))
                  · refine gn rfl rfl rfl (gn rfl rfl rfl (gn rfl rfl rfl (gn rfl rfl rfl (r (pk rfl rfl) (r (mv rfl) (gn rfl rfl rfl (gn rfl rfl rfl (gn rfl rfl rfl (gn rfl rfl rfl (r (pk rfl rfl) (re (cf rfl (sk (be ?_))))))))))))))
                    refine gen (fun ρ => ρ 5 = .pointer (some ⟨g5, 0, none⟩) ∧ ρ 6 = .pointer (some ⟨g6, 0, none⟩) ∧ ρ 7 = ria ∧ ρ 8 = rib ∧ ρ 9 = .int .i64 (k : Int) ∧ True) ⟨z5, z6, z7, z8, z9, trivial⟩ ?_
                    rintro ρ ⟨z5, z6, z7, z8, z9, -⟩
                    refine rg (r (mv z9) (r (ad (a := (k : Int)) (b := 1) ((k : Int) + 1) rfl rfl (by omega)) (r (sa rfl) (re ?_))))
                    have H64 : Hold w [] w563 [rB g5 42 ([.int .i64 q, .int .i64 s, .int .i64 b]), rB g6 42 ([.int .i64 q', .int .i64 s', .int .i64 b']), rR u8 eia ria (encH q s b), rR u8 eib rib (encH q' s' b')] := (show Hold w [] w563 ([rB g5 42 ([.int .i64 q, .int .i64 s, .int .i64 b]), rB g6 42 ([.int .i64 q', .int .i64 s', .int .i64 b']), rR u8 eia ria (encH q s b), rR u8 eib rib (encH q' s' b')] ++ [rB g10 80 ([.bool (decide (decH ((encH q' s' b').take k ++ (encH q s b).drop k))), .int .i64 (dV ((encH q' s' b').take k ++ (encH q s b).drop k) (hq ((encH q' s' b').take k ++ (encH q s b).drop k))), .int .i64 (dV ((encH q' s' b').take k ++ (encH q s b).drop k) (hs_ ((encH q' s' b').take k ++ (encH q s b).drop k))), .int .i64 (dV ((encH q' s' b').take k ++ (encH q s b).drop k) (hb_ ((encH q' s' b').take k ++ (encH q s b).drop k)))])]) from Hold.re H63 [0, 1, 2, 3, 4] (by rfl) (by rfl)).drop
                    clear H63
                    exact ag (k + 1) ⟨z5, z6, z7, z8, rfl, H64, by omega⟩ (by first | omega | (dsimp only; omega))
                · refine gn rfl rfl rfl (gn rfl rfl rfl (r (pk rfl rfl) (r (mv rfl) (gn rfl rfl rfl (gn rfl rfl rfl (gn rfl rfl rfl (gn rfl rfl rfl (r (pk rfl rfl) (r (mv rfl) (gn rfl rfl rfl (gn rfl rfl rfl (gn rfl rfl rfl (gn rfl rfl rfl (r (pk rfl rfl) (re (cf rfl (sk (be ?_))))))))))))))))))
                  refine gen (fun ρ => ρ 5 = .pointer (some ⟨g5, 0, none⟩) ∧ ρ 6 = .pointer (some ⟨g6, 0, none⟩) ∧ ρ 7 = ria ∧ ρ 8 = rib ∧ ρ 9 = .int .i64 (k : Int) ∧ True) ⟨z5, z6, z7, z8, z9, trivial⟩ ?_
                  rintro ρ ⟨z5, z6, z7, z8, z9, -⟩
                  refine rg (r (mv z9) (r (ad (a := (k : Int)) (b := 1) ((k : Int) + 1) rfl rfl (by omega)) (r (sa rfl) (re ?_))))
                  have H64 : Hold w [] w563 [rB g5 42 ([.int .i64 q, .int .i64 s, .int .i64 b]), rB g6 42 ([.int .i64 q', .int .i64 s', .int .i64 b']), rR u8 eia ria (encH q s b), rR u8 eib rib (encH q' s' b')] := (show Hold w [] w563 ([rB g5 42 ([.int .i64 q, .int .i64 s, .int .i64 b]), rB g6 42 ([.int .i64 q', .int .i64 s', .int .i64 b']), rR u8 eia ria (encH q s b), rR u8 eib rib (encH q' s' b')] ++ [rB g10 80 ([.bool (decide (decH ((encH q' s' b').take k ++ (encH q s b).drop k))), .int .i64 (dV ((encH q' s' b').take k ++ (encH q s b).drop k) (hq ((encH q' s' b').take k ++ (encH q s b).drop k))), .int .i64 (dV ((encH q' s' b').take k ++ (encH q s b).drop k) (hs_ ((encH q' s' b').take k ++ (encH q s b).drop k))), .int .i64 (dV ((encH q' s' b').take k ++ (encH q s b).drop k) (hb_ ((encH q' s' b').take k ++ (encH q s b).drop k)))])]) from Hold.re H63 [0, 1, 2, 3, 4] (by rfl) (by rfl)).drop
                  clear H63
                  exact ag (k + 1) ⟨z5, z6, z7, z8, rfl, H64, by omega⟩ (by first | omega | (dsimp only; omega))
          · refine ex rfl (sq (rg (r (sa rfl) (re (rt ?_)))))
            exact fin1 (v := .bool true) Try.results13 rfl ⟨rfl, Hold.ch H13⟩
end Go.Proofs.Ytgpcanjmgdmdhaa
