/-
  CONTRACTS 52: the program's FreeLids. No condition.
-/
import Derived.Test.Ytgpcanjmgdmdhaa51
namespace Go.Proofs.Ytgpcanjmgdmdhaa
open Go Go.RowKit
open Go.Eng hiding S L den sq sk bl be ex cd ct cf cp cpn gen rg re lp ag opv ops_ r ef ef0 gy gn spf sp rt fin0 den_exit den_ret cl
open Go.EngI
set_option maxRecDepth 100000
set_option maxHeartbeats 4000000
set_option linter.unusedVariables false
set_option linter.unusedSimpArgs false
theorem freeN_pre {t : List (Int × Bool)} {i : Nat} : ∀ j, i ≤ j → (freeN t j).take (freeN t i).length = freeN t i ∧ (freeN t i).length ≤ (freeN t j).length := by
  intro j
  induction j with
  | zero => intro h; obtain rfl : i = 0 := by omega
            simp
  | succ j ih =>
    intro h
    by_cases e : i = j + 1
    · subst e; simp
    · obtain ⟨h1, h2⟩ := ih (by omega)
      simp only [freeN]
      exact ⟨by rw [List.take_append_of_le_length h2]; exact h1, by simp; omega⟩
def flD (t : List (Int × Bool)) (n : Int) : List Int := if n ≤ 0 then [] else if n ≤ ((freeN t t.length).length : Int) then (freeN t t.length).take n.toNat else []
theorem flD_stop {t : List (Int × Bool)} {n : Int} {i : Nat} (hi : i < t.length) (hz : t[i].1 = 0) (hn : 0 < n) (hl : ((freeN t i ++ [(i : Int) + 1]).length : Int) = n) : flD t n = freeN t i ++ [(i : Int) + 1] := by
  rw [← freeN_yes hi hz] at hl ⊢
  obtain ⟨h1, h2⟩ := freeN_pre (t := t) (i := i + 1) t.length (by omega)
  rw [flD, if_neg (by omega), if_pos (by omega), show n.toNat = (freeN t (i + 1)).length by omega]; exact h1
theorem flD_done {t : List (Int × Bool)} {n : Int} (hn : 0 < n) (hl : ((freeN t t.length).length : Int) < n) : flD t n = [] := by
  rw [flD, if_neg (by omega), if_neg (by omega)]
theorem impl_FreeLids {w : World} {F : List Nat} {v : Value} {t : List (Int × Bool)} {nn : Int} (hx : kE.R w F v t) (lt : t.length ≤ 1000000000) :
    Ret Try.prog 47 #[v, .int .i64 nn] w (fun r w' => ∃ e, Hold w [] w' [rR i64 e r (flD t nn)]) := by
  unfold Ret
  refine enterM (m := 3) Try.func47 rfl Try.ntmps47 (by rfl) (by rfl) ?_
  have H0 : Hold w [] w [] := Hold.start w
  refine sq (rg (ef (xbx (t := 2) rfl (cel1 rfl)) ?_))
  rintro _ w1 ⟨g3, e1, rfl, -, b1, c1⟩
  have H1 : Hold w [] w1 [rB g3 2 ([.int .i64 nn])] := Hold.newB H0 e1 b1 c1
  clear H0
  clear e1 b1 c1
  refine ef (xal ti22) ?_
  rintro _ w2 ⟨g4, e2, rfl, -, b2, c2⟩
  have H2 : Hold w [] w2 [rB g3 2 ([.int .i64 nn]), rB g4 22 ([.slice none 0 0])] := Hold.newB H1 e2 b2 c2
  clear H1
  clear e2 b2 c2
  refine re (sq (rg (ef (xal ti22) ?_)))
  rintro _ w3 ⟨g5, e3, rfl, -, b3, c3⟩
  have H3 : Hold w [] w3 [rB g3 2 ([.int .i64 nn]), rB g4 22 ([.slice none 0 0]), rB g5 22 ([.slice none 0 0])] := Hold.newB H2 e3 b3 c3
  clear H2
  clear e3 b3 c3
  have b4 : B w3 g3 2 ([.int .i64 nn]) := Hold.blk H3 0 rfl
  refine re (sq (sq (rg (r (ldb Try.underlying2 rfl rfl b4 rfl) (r (bi rfl rfl rfl) (re ?_))))))
  refine cp rfl (fun h0 => ?_) (fun h0 => ?_)
  · have b5 : B w3 g5 22 ([.slice none 0 0]) := Hold.blk H3 2 rfl
    have b6 : B w3 g4 22 ([.slice none 0 0]) := Hold.blk H3 1 rfl
    refine sq (rg (r (ldb Try.underlying22 rfl rfl b5 rfl) (ef0 (xst (vs := [.slice none 0 0]) ti22 rfl rfl (cel1 rfl) b6 rfl (Nat.le_of_ble_eq_true rfl) (one_all rfl)) ?_)))
    rintro w7 ⟨-, b7, c7⟩
    have H4 : Hold w [] w7 [rB g3 2 ([.int .i64 nn]), rB g4 22 ([.slice none 0 0]), rB g5 22 ([.slice none 0 0])] := Hold.setB H3 1 rfl b7 c7 rfl
    clear H3
    clear b7 c7
    refine re (rtM ?_)
    have H5 : Hold w [] w7 [rB g3 2 ([.int .i64 nn]), rB g4 22 ([.slice none 0 0]), rB g5 22 ([.slice none 0 0]), rR i64 2 (.slice none 0 0) ([])] := Hold.nilrow i64 2 H4
    clear H4
    have b8 : B w7 g4 22 ([.slice none 0 0]) := Hold.blk H5 1 rfl
    have H6 : Hold w [] w7 [rR i64 2 (.slice none 0 0) ([])] := (show Hold w [] w7 ([rR i64 2 (.slice none 0 0) ([])] ++ [rB g3 2 ([.int .i64 nn]), rB g4 22 ([.slice none 0 0]), rB g5 22 ([.slice none 0 0])]) from Hold.re H5 [3, 0, 1, 2] (by kernel_rfl) (by rfl)).drop
    clear H5
    exact finM0 Try.results47 Try.underlying22 rfl rfl b8 rfl ⟨_, rfl, 2, by rw [flD, if_pos h0]; exact H6⟩
  · refine sk (sq (sq (rg (r (mv rfl) (cl go104 (freeLids_mk (hx.t (Hold.ch H3))) (ac rfl an) ?_)))))
    rintro r wf ⟨g, rfl, Hf⟩
    have H4 : Hold w [] wf [rB g3 2 ([.int .i64 nn]), rB g4 22 ([.slice none 0 0]), rB g5 22 ([.slice none 0 0]), rB g 57 ([v])] := Hold.news H3 Hf
    clear H3
    clear Hf
    refine re (bl ?_)
    have H5 : Hold w [] wf [rB g3 2 ([.int .i64 nn]), rB g4 22 ([.slice none 0 0]), rB g5 22 ([.slice none 0 0]), rB g 57 ([v]), rR i64 2 (.slice none 0 0) ([])] := Hold.nilrow i64 2 H4
    clear H4
    have H6 : Hold w [] wf [rB g3 2 ([.int .i64 nn]), rB g4 22 ([.slice none 0 0]), rB g5 22 ([.slice none 0 0]), rR i64 2 (.slice none 0 0) ([]), rB g 57 ([v])] := Hold.re H5 [0, 1, 2, 4, 3] (by kernel_rfl) (by rfl)
    clear H5
    have hn0 : 0 < nn := by omega
    have b6 : B wf g 57 ([v]) := Hold.blk H6 4 rfl
    have hsz : w.heap.size ≤ wf.heap.size := Hold.size H6
    have hgl : g < wf.heap.size := B.lt b6
    refine rf (m := 3) (α := Int) (gf := 146) (lb := #[.pointer (some ⟨g, 0, none⟩)]) (enc := fun x => .int .i64 x) (Kp := Kept (g :: F)) (by omega) rfl go146 (freeLids_seq (mm := 2) b6 (hx.t (Hold.ch H6)) lt) (fun h h' => h.trans h') ?_ (fun pre W => ∃ o, Hold w [] W ([rB g3 2 ([.int .i64 nn]), rB g4 22 ([.slice none 0 0]), rB g5 22 ([o]), rR i64 2 o pre] ++ [rB g 57 ([v])]) ∧ (pre.length : Int) < nn) (fun c pre W => c = .ret ∧ ∃ o, Hold w [] W [rB g3 2 ([.int .i64 nn]), rB g4 22 ([o]), rB g5 22 ([o]), rR i64 2 o pre] ∧ (pre.length : Int) = nn) ?_ ?_ ⟨.slice none 0 0, H6, by simpa using hn0⟩ rfl rfl (by decide) rfl ?_ ?_ ?_
    · exact fun W l o o2 hl ho _ _ => ⟨by simp [World.putObj], fun k hk => World.putObj_heap_other (fun e => by
      subst e
      rcases List.mem_cons.1 hk with h | h
      · omega
      · have := hx.lt _ h; omega)⟩
    · exact fun s A B row ⟨o, H, hl⟩ hg hr => ⟨o, hold_own (by intro r hr; simp only [List.cons_append, List.nil_append, List.mem_cons, List.not_mem_nil, or_false] at hr; rcases hr with rfl | rfl | rfl | rfl | rfl <;> first | exact cel_B | exact cel_R) H hg hsz hr, hl⟩
    · exact fun c s A B row ⟨hc, o, H, hl⟩ hg hr => ⟨hc, o, hold_own (by intro r hr; simp only [List.mem_cons, List.not_mem_nil, or_false] at hr; rcases hr with rfl | rfl | rfl | rfl <;> first | exact cel_B | exact cel_R) H hg hsz hr, hl⟩
    · rintro l pre x W ⟨o, HI, hlen⟩ hN
      obtain ⟨F1, hF1, n1, K1, X1, s1⟩ := Hold.frontx (Γ := [rB g3 2 ([.int .i64 nn]), rB g4 22 ([.slice none 0 0]), rB g5 22 ([o]), rR i64 2 o pre]) (Δ := [rB g 57 ([v])]) HI
      have HB : Hold W F1 W [rB g3 2 ([.int .i64 nn]), rB g4 22 ([.slice none 0 0]), rB g5 22 ([o]), rR i64 2 o pre] := Hold.begin hF1 n1
      have hcel := cel_Hs (by intro r hr; simp only [List.mem_cons, List.not_mem_nil, or_false] at hr; rcases hr with rfl | rfl | rfl | rfl <;> first | exact cel_B | exact cel_R) hF1
      obtain ⟨_, ⟨rfl, hgB⟩, hgx⟩ := X1 0 (rB g 57 ([v])) rfl
      have b7 : B W g5 22 ([o]) := Hold.blk HB 2 rfl
      refine bl (sq (rg (r (ldb Try.underlying22 rfl rfl b7 rfl) (r (mv rfl) (ef (xbs1 (cs := [.int .i64 x]) Try.underlying22 ti2 rfl rfl rfl (cel1 rfl) rfl) ?_)))))
      rintro _ w8 ⟨g15, e8, rfl, -, b8, c8⟩
      have H201 : Hold W F1 w8 [rB g3 2 ([.int .i64 nn]), rB g4 22 ([.slice none 0 0]), rB g5 22 ([o]), rR i64 2 o pre, rB g15 2 ([.int .i64 x])] := Hold.newB HB e8 b8 c8
      clear HB
      clear e8 b8 c8
      have b10 : B w8 g15 2 ([.int .i64 x]) := Hold.blk H201 4 rfl
      obtain ⟨F11, P11, n11, s11, K11⟩ := Hold.pick H201 3 rfl
      replace P11 : Kd.W i64 2 w8 F11 o pre := P11
      refine ef (xapb (ys := [x]) Try.underlying22 ti2 rfl rfl rfl P11 b10 (els_one (R := Kd.O i64 _) (show Kd.O i64 _ [] x _ from ⟨rfl, rfl⟩)) (nodup_nil n11) (by simp; omega)) ?_
      rintro v16_9 w9 ⟨F9, A9⟩
      have H202 : Hold W F1 w9 [rB g3 2 ([.int .i64 nn]), rB g4 22 ([.slice none 0 0]), rB g5 22 ([o]), rR i64 2 v16_9 (pre ++ [x]), rB g15 2 ([.int .i64 x])] := Hold.apd K11 P11 A9 rfl
      clear H201
      clear A9 K11 P11 n11 s11
      have b12 : B w9 g5 22 ([o]) := Hold.blk H202 2 rfl
      obtain ⟨_, R14⟩ : ∃ F, Kd.R i64 w9 F v16_9 (pre ++ [x]) := Hold.row H202 3 rfl
      refine ef0 (xst (vs := [v16_9]) ti22 rfl rfl (cel1 (R14).oneCell) b12 rfl (Nat.le_of_ble_eq_true rfl) (ones1 (R14).oneCell)) ?_
      rintro w13 ⟨-, b13, c13⟩
      have H203 : Hold W F1 w13 [rB g3 2 ([.int .i64 nn]), rB g4 22 ([.slice none 0 0]), rB g5 22 ([v16_9]), rR i64 2 v16_9 (pre ++ [x]), rB g15 2 ([.int .i64 x])] := Hold.setB H202 2 rfl b13 c13 rfl
      clear H202
      clear b13 c13
      have b15 : B w13 g5 22 ([v16_9]) := Hold.blk H203 2 rfl
      obtain ⟨_, R16⟩ : ∃ F, Kd.R i64 w13 F v16_9 (pre ++ [x]) := Hold.row H203 3 rfl
      have b17 : B w13 g3 2 ([.int .i64 nn]) := Hold.blk H203 0 rfl
      refine re (sq (rg (r (ldb Try.underlying22 rfl rfl b15 rfl) (r (ln Try.underlying22 rfl (R16)) (r (ldb Try.underlying2 rfl rfl b17 rfl) (r (bi rfl rfl rfl) (re ?_)))))))
      refine cp rfl (fun hq => ?_) (fun hq => ?_)
      · have b18 : B w13 g4 22 ([.slice none 0 0]) := Hold.blk H203 1 rfl
        refine sq (rg (r (ldb Try.underlying22 rfl rfl b15 rfl) (ef0 (xst (vs := [v16_9]) ti22 rfl rfl (cel1 (R16).oneCell) b18 rfl (Nat.le_of_ble_eq_true rfl) (ones1 (R16).oneCell)) ?_)))
        rintro w19 ⟨-, b19, c19⟩
        have H204 : Hold W F1 w19 [rB g3 2 ([.int .i64 nn]), rB g4 22 ([v16_9]), rB g5 22 ([v16_9]), rR i64 2 v16_9 (pre ++ [x]), rB g15 2 ([.int .i64 x])] := Hold.setB H203 1 rfl b19 c19 rfl
        clear H203
        clear b19 c19
        refine re (retq ?_)
        have H205 : Hold W F1 w19 [rB g3 2 ([.int .i64 nn]), rB g4 22 ([v16_9]), rB g5 22 ([v16_9]), rR i64 2 v16_9 (pre ++ [x])] := (show Hold W F1 w19 ([rB g3 2 ([.int .i64 nn]), rB g4 22 ([v16_9]), rB g5 22 ([v16_9]), rR i64 2 v16_9 (pre ++ [x])] ++ [rB g15 2 ([.int .i64 x])]) from Hold.re H204 [0, 1, 2, 3, 4] (by kernel_rfl) (by rfl)).drop
        clear H204
        exact fun a => ⟨keeps_of_ch (Hold.ch H205) hcel, rfl, _, Hold.drop (Hold.call K1 H205), hq⟩
      · refine sk (be ?_)
        have H204 : Hold W F1 w13 [rB g3 2 ([.int .i64 nn]), rB g4 22 ([.slice none 0 0]), rB g5 22 ([v16_9]), rR i64 2 v16_9 (pre ++ [x])] := (show Hold W F1 w13 ([rB g3 2 ([.int .i64 nn]), rB g4 22 ([.slice none 0 0]), rB g5 22 ([v16_9]), rR i64 2 v16_9 (pre ++ [x])] ++ [rB g15 2 ([.int .i64 x])]) from Hold.re H203 [0, 1, 2, 3, 4] (by kernel_rfl) (by rfl)).drop
        clear H203
        simp only [List.length_append, List.length_cons, List.length_nil] at hq
        refine endq (fun a => ⟨keeps_of_ch (Hold.ch H204) hcel, ⟨(Hold.ch H204).size, fun k hk => ?_⟩, _, Hold.call K1 H204, by simp; omega⟩)
        rcases List.mem_cons.1 hk with rfl | h
        · exact (Hold.ch H204).blk _ hgB.lt (hgx _ (by simp))
        · exact (Hold.ch H204).blk k (Nat.lt_of_lt_of_le (hx.lt k h) (Hold.size HI)) (dis_of0 hx.lt s1 k h)
    · rintro D xs W hD rfl ⟨o, HI, hlen⟩ hH
      obtain ⟨F1, hF1, n1, K1, X1, s1⟩ := Hold.frontx (Γ := [rB g3 2 ([.int .i64 nn]), rB g4 22 ([.slice none 0 0]), rB g5 22 ([o]), rR i64 2 o (freeN t t.length)]) (Δ := [rB g 57 ([v])]) HI
      have HB : Hold W F1 W [rB g3 2 ([.int .i64 nn]), rB g4 22 ([.slice none 0 0]), rB g5 22 ([o]), rR i64 2 o (freeN t t.length)] := Hold.begin hF1 n1
      have hcel := cel_Hs (by intro r hr; simp only [List.mem_cons, List.not_mem_nil, or_false] at hr; rcases hr with rfl | rfl | rfl | rfl <;> first | exact cel_B | exact cel_R) hF1
      have b7 : B W g4 22 ([.slice none 0 0]) := Hold.blk HB 1 rfl
      refine be (sq (rg (ef0 (xst (vs := [.slice none 0 0]) ti22 rfl rfl (cel1 rfl) b7 rfl (Nat.le_of_ble_eq_true rfl) (one_all rfl)) ?_)))
      rintro w8 ⟨-, b8, c8⟩
      have H201 : Hold W F1 w8 [rB g3 2 ([.int .i64 nn]), rB g4 22 ([.slice none 0 0]), rB g5 22 ([o]), rR i64 2 o (freeN t t.length)] := Hold.setB HB 1 rfl b8 c8 rfl
      clear HB
      clear b8 c8
      refine re (rtM ?_)
      have b9 : B w8 g4 22 ([.slice none 0 0]) := Hold.blk H201 1 rfl
      have hH2 := (keeps_of_ch (Hold.ch H201) hcel).same D _ hH rfl
      have HE := Hold.call K1 H201
      have HN := hold_own (b := wf.heap.size) (by intro r hr; rw [List.mem_singleton.1 hr]; exact cel_R) (Hold.nilrow i64 2 (Hold.nil HE)) (grownBy_putObj' _ D (.deferred none)) hsz (fun r e => by cases e; exact ⟨hD, _, hH2, rfl⟩)
      exact finM Try.results47 Try.underlying22 rfl rfl b9 rfl hH2 ⟨_, rfl, 2, by rw [flD_done hn0 hlen]; exact HN⟩
    · rintro D c pre W hD ⟨i, hi, hz, rfl⟩ ⟨rfl, o, HI, hlen⟩ hH
      refine ⟨rfl, rtM ?_⟩
      have hb4 := Hold.blk HI 1 rfl
      have HN := hold_own (b := wf.heap.size) (by intro r hr; rw [List.mem_singleton.1 hr]; exact cel_R) (Hold.last HI 3 rfl) (grownBy_putObj' _ D (.deferred none)) hsz (fun r e => by cases e; exact ⟨hD, _, hH, rfl⟩)
      exact finM Try.results47 Try.underlying22 rfl rfl hb4 rfl hH ⟨_, rfl, 2, by rw [flD_stop hi hz hn0 hlen]; exact HN⟩
end Go.Proofs.Ytgpcanjmgdmdhaa
