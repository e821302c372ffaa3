/-
  CONTRACTS 24: a reading that may run out of bytes. No condition.
-/
import Derived.Test.YtgpcanjmgdmdhaaDoorDef
import Derived.Test.YtgpcanjmgdmdhaaDoor20
namespace Go.Proofs.YtgpcanjmgdmdhaaDoor
open Go Go.Eng
set_option maxRecDepth 100000
set_option maxHeartbeats 4000000
set_option linter.unusedVariables false
set_option linter.unusedSimpArgs false
/-- What a source panics with when it has no more bytes. -/
abbrev ranOut : PanicEntry := { v := .iface 128 (.agg #[]), recovered := false }
theorem rec_ret {w : World} {g : Nat} : Dfd Tryd.prog 84 [.pointer (some ⟨g, 0, none⟩)] .returning w (fun w' => Ch [] w w') := by
  refine Dfd.of (Φ := fun r w' => Ch [] w w') (recS (v := .nilIface) (u1 := .returning) Tryd.func84 rfl Tryd.ntmps84 (by rfl) (by rfl) rfl ?_) rfl (fun _ _ h => h)
  have H0 : Hold w [] w [] := Hold.start w
  refine bl (sq (rg (r (inn Tryd.underlying20 rfl) (re (ct rfl (rg (r (sa rfl) (re (be ?_)))))))))
  exact fin0 Tryd.results84 (Hold.ch H0)
theorem rec_pan {w : World} {g : Nat} {T : TypeId} {b : Bool} (hB : B w g T [.bool b]) : Dfd Tryd.prog 84 [.pointer (some ⟨g, 0, none⟩)] (.panicking [ranOut]) w (fun w' => B w' g T [.bool false] ∧ Ch [g] w w') := by
  refine Dfd.of (Φ := fun r w' => B w' g T [.bool false] ∧ Ch [g] w w') (recS (v := .iface 128 (.agg #[])) (u1 := .panicking [{ v := .iface 128 (.agg #[]), recovered := true }]) Tryd.func84 rfl Tryd.ntmps84 (by rfl) (by rfl) rfl ?_) rfl (fun _ _ h => h)
  have H0 : Hold w [g] w [rB g T [.bool b]] := Hold.begin (Hs.one (r := rB g T [.bool b]) ⟨rfl, hB⟩) (by simp)
  refine bl (sq (rg (r (ien Tryd.underlying20 rfl) (re (cf rfl (sq (rg (r (tas Tryd.underlying128 rfl rfl) (r (xt rfl rfl) (r (xt rfl rfl) (re (ct rfl (sq (rg (ef (xal ti128) ?_)))))))))))))))
  rintro _ w1 ⟨g2, e1, rfl, -, b1, c1⟩
  have H1 : Hold w [g] w1 [rB g T ([.bool b]), rB g2 128 ([])] := Hold.newB H0 e1 b1 c1
  clear H0
  clear e1 b1 c1
  have b2 : B w1 g2 128 ([]) := Hold.blk H1 1 rfl
  refine ef0 (xst (vs := []) ti128 rfl rfl rfl b2 rfl (Nat.le_of_ble_eq_true rfl) (one_all rfl)) ?_
  rintro w3 ⟨-, b3, c3⟩
  have H2 : Hold w [g] w3 [rB g T ([.bool b]), rB g2 128 ([])] := Hold.setB H1 1 rfl b3 c3 rfl
  clear H1
  clear b3 c3
  have b4 : B w3 g T ([.bool b]) := Hold.blk H2 0 rfl
  refine re (rg (ef0 (xst (vs := [.bool false]) ti4 rfl rfl (cel1 rfl) b4 rfl (Nat.le_of_ble_eq_true rfl) (one_all rfl)) ?_))
  rintro w5 ⟨-, b5, c5⟩
  have H3 : Hold w [g] w5 [rB g T ([.bool false]), rB g2 128 ([])] := Hold.setB H2 0 rfl b5 c5 rfl
  clear H2
  clear b5 c5
  refine re (be ?_)
  have H4 : Hold w [g] w5 [rB g T ([.bool false])] := (show Hold w [g] w5 ([rB g T ([.bool false])] ++ [rB g2 128 ([])]) from Hold.re H3 [0, 1] (by kernel_rfl) (by rfl)).drop
  clear H3
  exact fin0 Tryd.results84 ⟨Hold.blk H4 0 rfl, Hold.ch H4⟩
theorem reading {w : World} {F : List Nat} {v : Value} {A Aok Abad : Rs} {okp badp : Prop} {fc : FuncId} {cap : List Value} {G : List Nat} {xs : List Int} (hx : u8.R w G v xs) (hd : ∀ k, k ∈ G → k ∉ F) (hg : Goes Tryd.prog fc) (hs : Hs w [A] F) (nd : F.Nodup)
    (hf : ∀ w1 gs F1, Ch F w w1 → Hs w1 [rB gs 102 [v], A] F1 → F1.Nodup → (∀ k, k ∈ F1 → k ∈ F ∨ w.heap.size ≤ k) → RetP Tryd.prog fc ([Value.pointer (some ⟨gs, 0, none⟩)] ++ cap).toArray w1 (fun r w' => okp ∧ Hold w1 F1 w' [Aok]) (fun c w' => badp ∧ c = [ranOut] ∧ Hold w1 F1 w' [Abad])) :
    Ret Tryd.prog 40 #[v, .func (.func fc) #[] cap.toArray] w (fun r w' => (r = .bool true ∧ okp ∧ Hold w F w' [Aok]) ∨ (r = .bool false ∧ badp ∧ Hold w F w' [Abad])) := by
  refine enterD Tryd.func40 rfl Tryd.ntmps40 (by rfl) (by rfl) ?_
  have H0 : Hold w F w [A] := Hold.begin hs nd
  refine sq (rg (ef (xal ti4) ?_))
  rintro _ w1 ⟨g4, e1, rfl, -, b1, c1⟩
  have H1 : Hold w F w1 [A, rB g4 4 ([.bool false])] := Hold.newB H0 e1 b1 c1
  clear H0
  clear e1 b1 c1
  refine re (sq (rg (r (mf (vs := []) (cs := [.pointer (some ⟨g4, 0, none⟩)]) an (ac rfl an)) (dfr (f := 84) (cap := [.pointer (some ⟨g4, 0, none⟩)]) rfl (re (sq (rg (r (mv rfl) (r (mv rfl) (r (bd (r := [v]) ti102 pl102 (pc rfl (cel1 ((hx.tt (Hold.ch H1) hd)).oneCell) pn) rfl) (ef (xbx (t := 102) rfl rfl) ?_)))))))))))
  rintro _ w2 ⟨g9, e2, rfl, -, b2, c2⟩
  have H2 : Hold w F w2 [A, rB g4 4 ([.bool false]), rB g9 102 ([v])] := Hold.newB H1 e2 b2 c2
  clear H1
  clear e2 b2 c2
  have H3 : Hold w F w2 [rB g9 102 ([v]), A, rB g4 4 ([.bool false])] := Hold.re H2 [2, 0, 1] (by kernel_rfl) (by rfl)
  clear H2
  obtain ⟨F3, hF3, n3, s3, K3⟩ := Hold.front (Γ := [rB g9 102 ([v]), A]) (Δ := [rB g4 4 ([.bool false])]) H3
  refine clvp rfl hg (ac rfl an) (hf _ g9 F3 (Hold.ch H3) hF3 n3 s3) (fun c w2 a hp ha => ?_) ?_
  · obtain ⟨hb, rfl, Hb⟩ := hp
    have H4 : Hold w F w2 [Abad, rB g4 4 ([.bool false])] := Hold.call K3 Hb
    clear H3
    have b4 : B w2 g4 4 ([.bool false]) := Hold.blk H4 1 rfl
    refine finDp go84 (rec_pan b4) (fun w9 h9 => ?_) ha
    obtain ⟨b9, c9⟩ := h9
    have H5 : Hold w F w9 [Abad, rB g4 4 ([.bool false])] := Hold.setB H4 1 rfl b9 c9 rfl
    clear H4
    have b5 : B w9 g4 4 ([.bool false]) := Hold.blk H5 1 rfl
    have H6 : Hold w F w9 [Abad] := (show Hold w F w9 ([Abad] ++ [rB g4 4 ([.bool false])]) from Hold.re H5 [0, 1] (by kernel_rfl) (by rfl)).drop
    clear H5
    exact fincs (v := .bool false) Tryd.results40 Tryd.underlying4 rfl rfl b5 rfl (show _ ∨ _ from .inr ⟨rfl, hb, H6⟩)
  rintro r wf ⟨hok, Hf⟩
  have H4 : Hold w F wf [Aok, rB g4 4 ([.bool false])] := Hold.call K3 Hf
  clear H3
  clear K3 hF3 n3 s3
  clear Hf
  have b4 : B wf g4 4 ([.bool false]) := Hold.blk H4 1 rfl
  refine re (sq (rg (ef0 (xst (vs := [.bool true]) ti4 rfl rfl (cel1 rfl) b4 rfl (Nat.le_of_ble_eq_true rfl) (one_all rfl)) ?_)))
  rintro w5 ⟨-, b5, c5⟩
  have H5 : Hold w F w5 [Aok, rB g4 4 ([.bool true])] := Hold.setB H4 1 rfl b5 c5 rfl
  clear H4
  clear b5 c5
  refine re (rtd ?_)
  have b6 : B w5 g4 4 ([.bool true]) := Hold.blk H5 1 rfl
  refine finD go84 rec_ret (fun w9 c9 => ?_)
  have H6 : Hold w F w9 [Aok, rB g4 4 ([.bool true])] := Hold.t H5 c9
  clear H5
  have b7 : B w9 g4 4 ([.bool true]) := Hold.blk H6 1 rfl
  have H7 : Hold w F w9 [Aok] := (show Hold w F w9 ([Aok] ++ [rB g4 4 ([.bool true])]) from Hold.re H6 [0, 1] (by kernel_rfl) (by rfl)).drop
  clear H6
  exact fincs (v := .bool true) Tryd.results40 Tryd.underlying4 rfl rfl b7 rfl (show _ ∨ _ from .inl ⟨rfl, hok, H7⟩)
end Go.Proofs.YtgpcanjmgdmdhaaDoor
