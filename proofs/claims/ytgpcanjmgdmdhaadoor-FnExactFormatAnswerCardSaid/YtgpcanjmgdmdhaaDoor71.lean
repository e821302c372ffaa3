/-
  CONTRACTS 71: a strings.Builder; data as printable text. No condition.
-/
import Derived.Test.YtgpcanjmgdmdhaaDoor70
namespace Go.Proofs.YtgpcanjmgdmdhaaDoor
open Go Go.Eng
set_option maxRecDepth 100000
set_option maxHeartbeats 4000000
set_option linter.unusedVariables false
set_option linter.unusedSimpArgs false
theorem noEsc (v : Value) (w : World) : (callFunc 136 #[v]).run Tryd.prog w = .ok (.value v) w := by
  rw [run_callFunc_extern Tryd.func136 (by kernel_rfl) (by kernel_rfl) (by kernel_rfl) (e := Extern.AbiNoEscape.same) (by kernel_rfl), Lib.run_noEscape]
  rfl
theorem copyCheck_fresh {w : World} {F : List Nat} {b : Nat} {x : Value} (hx : x.oneCell' = true) (h : Hs w [rB b 147 [.pointer none, x]] F) (nd : F.Nodup) : Ret Tryd.prog 120 #[.pointer (some ⟨b, 0, none⟩)] w (fun r w' => r = .tuple #[] ∧ Hold w F w' [rB b 147 [.pointer (some ⟨b, 0, none⟩), x]]) := by
  refine enter Tryd.func120 rfl Tryd.ntmps120 (by rfl) (by rfl) ?_
  have H0 : Hold w F w [rB b 147 ([.pointer none, x])] := Hold.begin h nd
  have b1 : B w b 147 ([.pointer none, x]) := Hold.blk H0 0 rfl
  refine sq (rg (r (mv rfl) (r (nck rfl) (r (fa Tryd.underlying147 rfl ti145 rfl rfl) (r (ldb Tryd.underlying145 rfl rfl b1 rfl) (r (pel Tryd.underlying145 rfl) (re ?_)))))))
  refine ct ((rfl : _ = Value.bool ((none : Option Addr).isNone)).trans (congrArg Value.bool (show ((none : Option Addr).isNone) = true from rfl))) ?_
  refine rg (r (mv rfl) (r (mv rfl) (r (cvu Tryd.underlying145 Tryd.underlying178 ti147 b1 rfl (by decide) (Nat.zero_lt_succ _)) (r (xtn (noEsc _) rfl) (r (cvdn Tryd.underlying178 Tryd.underlying145 ti147 b1 rfl (by kernel_rfl)) (r (nck rfl) (r (fa Tryd.underlying147 rfl ti145 rfl rfl) (ef0 (xst (vs := [.pointer (some ⟨b, 0, none⟩)]) ti145 rfl rfl (cel1 rfl) b1 rfl (Nat.le_of_ble_eq_true rfl) (one_all rfl)) ?_))))))))
  rintro w2 ⟨-, b2, c2⟩
  have H1 : Hold w F w2 [rB b 147 ([.pointer (some ⟨b, 0, none⟩), x])] := Hold.setB H0 0 rfl b2 c2 rfl
  clear H0
  clear b2 c2
  refine re ?_
  exact fin0 Tryd.results120 ⟨rfl, H1⟩
theorem copyCheck_used {w : World} {F : List Nat} {b : Nat} {x : Value} (hx : x.oneCell' = true) (h : Hs w [rB b 147 [.pointer (some ⟨b, 0, none⟩), x]] F) (nd : F.Nodup) : Ret Tryd.prog 120 #[.pointer (some ⟨b, 0, none⟩)] w (fun r w' => r = .tuple #[] ∧ Hold w F w' [rB b 147 [.pointer (some ⟨b, 0, none⟩), x]]) := by
  refine enter Tryd.func120 rfl Tryd.ntmps120 (by rfl) (by rfl) ?_
  have H0 : Hold w F w [rB b 147 ([.pointer (some ⟨b, 0, none⟩), x])] := Hold.begin h nd
  have b1 : B w b 147 ([.pointer (some ⟨b, 0, none⟩), x]) := Hold.blk H0 0 rfl
  refine sq (rg (r (mv rfl) (r (nck rfl) (r (fa Tryd.underlying147 rfl ti145 rfl rfl) (r (ldb Tryd.underlying145 rfl rfl b1 rfl) (r (pel Tryd.underlying145 rfl) (re ?_)))))))
  refine cf ((rfl : _ = Value.bool ((some (⟨b, 0, none⟩ : Addr)).isNone)).trans (congrArg Value.bool (show ((some (⟨b, 0, none⟩ : Addr)).isNone) = false from rfl))) ?_
  refine sq (rg (r (mv rfl) (r (nck rfl) (r (fa Tryd.underlying147 rfl ti145 rfl rfl) (r (ldb Tryd.underlying145 rfl rfl b1 rfl) (r (mv rfl) (r (pns Tryd.underlying145 ti147 rfl rfl) (re (cf rfl (sk ?_))))))))))
  exact fin0 Tryd.results120 ⟨rfl, H0⟩
theorem WriteByte_fresh {w : World} {F : List Nat} {b : Nat} {v : Value} {xs : List Int} {c : Int} (h : Hs w [rB b 147 [.pointer none, v], rR u8 5 v xs] F) (nd : F.Nodup) (lx : xs.length ≤ 1000000000) : Ret Tryd.prog 97 #[.pointer (some ⟨b, 0, none⟩), .int .u8 c] w (fun r w' => ∃ v', r = .nilIface ∧ Hold w F w' [rB b 147 [.pointer (some ⟨b, 0, none⟩), v'], rR u8 5 v' (xs ++ [c])]) := by
  refine enter Tryd.func97 rfl Tryd.ntmps97 (by rfl) (by rfl) ?_
  have H0 : Hold w F w [rB b 147 ([.pointer none, v]), rR u8 5 v xs] := Hold.begin h nd
  have ho : v.oneCell' = true := (Hold.row H0 1 rfl).choose_spec.oneCell
  obtain ⟨F1, hF1, n1, s1, K1⟩ := Hold.front (Γ := [rB b 147 ([.pointer none, v])]) (Δ := [rR u8 5 v xs]) H0
  refine sq (rg (r (sa rfl) (re (sq (rg (r (mv rfl) (cl go120 (copyCheck_fresh ho hF1 n1) (ac rfl an) ?_)))))))
  rintro r wc ⟨rfl, Hc⟩
  have H1 : Hold w F wc [rB b 147 ([.pointer (some ⟨b, 0, none⟩), v]), rR u8 5 v xs] := Hold.call K1 Hc
  clear H0
  clear K1 hF1 n1 s1
  clear Hc
  have b2 : B wc b 147 ([.pointer (some ⟨b, 0, none⟩), v]) := Hold.blk H1 0 rfl
  refine re (sq (rg (r (mv rfl) (r (mv rfl) (r (nck rfl) (r (fa Tryd.underlying147 rfl ti22 rfl rfl) (r (ldb Tryd.underlying22 rfl rfl b2 rfl) (r (mv rfl) (ef (xbs1 (cs := [.int .u8 c]) Tryd.underlying22 ti5 rfl rfl rfl (cel1 rfl) rfl) ?_)))))))))
  rintro _ w3 ⟨g13, e3, rfl, -, b3, c3⟩
  have H2 : Hold w F w3 [rB b 147 ([.pointer (some ⟨b, 0, none⟩), v]), rR u8 5 v xs, rB g13 5 ([.int .u8 c])] := Hold.newB H1 e3 b3 c3
  clear H1
  clear e3 b3 c3
  have b5 : B w3 g13 5 ([.int .u8 c]) := Hold.blk H2 2 rfl
  obtain ⟨F6, P6, n6, s6, K6⟩ := Hold.pick H2 1 rfl
  replace P6 : Kd.W u8 5 w3 F6 v xs := P6
  refine ef (xapb (ys := [c]) Tryd.underlying22 ti5 rfl rfl rfl P6 b5 (els_one (R := Kd.O u8 _) (show Kd.O u8 _ [] c _ from ⟨rfl, rfl⟩)) (nodup_nil n6) (by simp; omega)) ?_
  rintro v14_4 w4 ⟨F4, A4⟩
  have H3 : Hold w F w4 [rB b 147 ([.pointer (some ⟨b, 0, none⟩), v]), rR u8 5 v14_4 (xs ++ [c]), rB g13 5 ([.int .u8 c])] := Hold.apd K6 P6 A4 rfl
  clear H2
  clear A4 K6 P6 n6 s6
  have b7 : B w4 b 147 ([.pointer (some ⟨b, 0, none⟩), v]) := Hold.blk H3 0 rfl
  obtain ⟨_, R9⟩ : ∃ F, Kd.R u8 w4 F v14_4 (xs ++ [c]) := Hold.row H3 1 rfl
  refine r (nck rfl) (r (fa Tryd.underlying147 rfl ti22 rfl rfl) (ef0 (xst (vs := [v14_4]) ti22 rfl rfl (cel1 (R9).oneCell) b7 rfl (Nat.le_of_ble_eq_true rfl) (ones1 (R9).oneCell)) ?_))
  rintro w8 ⟨-, b8, c8⟩
  have H4 : Hold w F w8 [rB b 147 ([.pointer (some ⟨b, 0, none⟩), v14_4]), rR u8 5 v14_4 (xs ++ [c]), rB g13 5 ([.int .u8 c])] := Hold.setB H3 0 rfl b8 c8 rfl
  clear H3
  clear b8 c8
  refine re (sq (rg (r (sa rfl) (re (rt ?_)))))
  have H5 : Hold w F w8 [rB b 147 ([.pointer (some ⟨b, 0, none⟩), v14_4]), rR u8 5 v14_4 (xs ++ [c])] := (show Hold w F w8 ([rB b 147 ([.pointer (some ⟨b, 0, none⟩), v14_4]), rR u8 5 v14_4 (xs ++ [c])] ++ [rB g13 5 ([.int .u8 c])]) from Hold.re H4 [0, 1, 2] (by kernel_rfl) (by rfl)).drop
  clear H4
  exact fin1 (v := _) Tryd.results97 rfl ⟨_, rfl, H5⟩
theorem WriteByte_used {w : World} {F : List Nat} {b : Nat} {v : Value} {xs : List Int} {c : Int} (h : Hs w [rB b 147 [.pointer (some ⟨b, 0, none⟩), v], rR u8 5 v xs] F) (nd : F.Nodup) (lx : xs.length ≤ 1000000000) : Ret Tryd.prog 97 #[.pointer (some ⟨b, 0, none⟩), .int .u8 c] w (fun r w' => ∃ v', r = .nilIface ∧ Hold w F w' [rB b 147 [.pointer (some ⟨b, 0, none⟩), v'], rR u8 5 v' (xs ++ [c])]) := by
  refine enter Tryd.func97 rfl Tryd.ntmps97 (by rfl) (by rfl) ?_
  have H0 : Hold w F w [rB b 147 ([.pointer (some ⟨b, 0, none⟩), v]), rR u8 5 v xs] := Hold.begin h nd
  have ho : v.oneCell' = true := (Hold.row H0 1 rfl).choose_spec.oneCell
  obtain ⟨F1, hF1, n1, s1, K1⟩ := Hold.front (Γ := [rB b 147 ([.pointer (some ⟨b, 0, none⟩), v])]) (Δ := [rR u8 5 v xs]) H0
  refine sq (rg (r (sa rfl) (re (sq (rg (r (mv rfl) (cl go120 (copyCheck_used ho hF1 n1) (ac rfl an) ?_)))))))
  rintro r wc ⟨rfl, Hc⟩
  have H1 : Hold w F wc [rB b 147 ([.pointer (some ⟨b, 0, none⟩), v]), rR u8 5 v xs] := Hold.call K1 Hc
  clear H0
  clear K1 hF1 n1 s1
  clear Hc
  have b2 : B wc b 147 ([.pointer (some ⟨b, 0, none⟩), v]) := Hold.blk H1 0 rfl
  refine re (sq (rg (r (mv rfl) (r (mv rfl) (r (nck rfl) (r (fa Tryd.underlying147 rfl ti22 rfl rfl) (r (ldb Tryd.underlying22 rfl rfl b2 rfl) (r (mv rfl) (ef (xbs1 (cs := [.int .u8 c]) Tryd.underlying22 ti5 rfl rfl rfl (cel1 rfl) rfl) ?_)))))))))
  rintro _ w3 ⟨g13, e3, rfl, -, b3, c3⟩
  have H2 : Hold w F w3 [rB b 147 ([.pointer (some ⟨b, 0, none⟩), v]), rR u8 5 v xs, rB g13 5 ([.int .u8 c])] := Hold.newB H1 e3 b3 c3
  clear H1
  clear e3 b3 c3
  have b5 : B w3 g13 5 ([.int .u8 c]) := Hold.blk H2 2 rfl
  obtain ⟨F6, P6, n6, s6, K6⟩ := Hold.pick H2 1 rfl
  replace P6 : Kd.W u8 5 w3 F6 v xs := P6
  refine ef (xapb (ys := [c]) Tryd.underlying22 ti5 rfl rfl rfl P6 b5 (els_one (R := Kd.O u8 _) (show Kd.O u8 _ [] c _ from ⟨rfl, rfl⟩)) (nodup_nil n6) (by simp; omega)) ?_
  rintro v14_4 w4 ⟨F4, A4⟩
  have H3 : Hold w F w4 [rB b 147 ([.pointer (some ⟨b, 0, none⟩), v]), rR u8 5 v14_4 (xs ++ [c]), rB g13 5 ([.int .u8 c])] := Hold.apd K6 P6 A4 rfl
  clear H2
  clear A4 K6 P6 n6 s6
  have b7 : B w4 b 147 ([.pointer (some ⟨b, 0, none⟩), v]) := Hold.blk H3 0 rfl
  obtain ⟨_, R9⟩ : ∃ F, Kd.R u8 w4 F v14_4 (xs ++ [c]) := Hold.row H3 1 rfl
  refine r (nck rfl) (r (fa Tryd.underlying147 rfl ti22 rfl rfl) (ef0 (xst (vs := [v14_4]) ti22 rfl rfl (cel1 (R9).oneCell) b7 rfl (Nat.le_of_ble_eq_true rfl) (ones1 (R9).oneCell)) ?_))
  rintro w8 ⟨-, b8, c8⟩
  have H4 : Hold w F w8 [rB b 147 ([.pointer (some ⟨b, 0, none⟩), v14_4]), rR u8 5 v14_4 (xs ++ [c]), rB g13 5 ([.int .u8 c])] := Hold.setB H3 0 rfl b8 c8 rfl
  clear H3
  clear b8 c8
  refine re (sq (rg (r (sa rfl) (re (rt ?_)))))
  have H5 : Hold w F w8 [rB b 147 ([.pointer (some ⟨b, 0, none⟩), v14_4]), rR u8 5 v14_4 (xs ++ [c])] := (show Hold w F w8 ([rB b 147 ([.pointer (some ⟨b, 0, none⟩), v14_4]), rR u8 5 v14_4 (xs ++ [c])] ++ [rB g13 5 ([.int .u8 c])]) from Hold.re H4 [0, 1, 2] (by kernel_rfl) (by rfl)).drop
  clear H4
  exact fin1 (v := _) Tryd.results97 rfl ⟨_, rfl, H5⟩
/-- A byte that is shown; a text that is shown. -/
def hx (v : Int) : Int := if v < 10 then 48 + v else 55 + v
def escB (b : Int) : List Int := if 33 ≤ b ∧ b ≤ 126 ∧ b ≠ 37 then [b] else [37, hx (b / 16), hx (b % 16)]
def esc (xs : List Int) : List Int := xs.flatMap escB
theorem esc_take {xs : List Int} {i : Nat} (h : i < xs.length) : esc (xs.take (i + 1)) = esc (xs.take i) ++ escB xs[i] := by
  unfold esc
  rw [List.take_succ_eq_append_getElem h, List.flatMap_append]; simp only [List.flatMap_cons, List.flatMap_nil, List.append_nil]
theorem escB_len (b : Int) : (escB b).length ≤ 3 := by unfold escB; split <;> simp
theorem esc_len (xs : List Int) : (esc xs).length ≤ 3 * xs.length := by
  induction xs with
  | nil => simp [esc]
  | cons x xs ih => have := escB_len x; simp only [esc, List.flatMap_cons, List.length_append, List.length_cons] at ih ⊢; omega
theorem hx_ok {v : Int} (h : 0 ≤ v ∧ v < 16) : 0 ≤ hx v ∧ hx v ≤ 255 := by unfold hx; split <;> omega
theorem escB_ok {b : Int} (h : 0 ≤ b ∧ b ≤ 255) : ok8 (escB b) := by
  unfold escB; split
  · intro x hx'; rw [List.mem_singleton.1 hx']; exact h
  · intro x hx'
    simp only [List.mem_cons, List.mem_nil_iff, or_false] at hx'
    rcases hx' with rfl | rfl | rfl
    · omega
    · exact hx_ok ⟨by omega, by omega⟩
    · exact hx_ok ⟨by omega, by omega⟩
theorem esc_ok {xs : List Int} (h : ok8 xs) : ok8 (esc xs) := by
  intro x hx'
  obtain ⟨b, hb, hx''⟩ := List.mem_flatMap.1 hx'
  exact escB_ok (h b hb) x hx''
def hexB : ByteArray := ⟨#[48, 49, 50, 51, 52, 53, 54, 55, 56, 57, 65, 66, 67, 68, 69, 70]⟩
theorem hexB_get : ∀ (i : Nat) (h : i < 16), (nums8 hexB)[i]'(by rw [nums8_len]; exact h) = hx (i : Int) := by
  intro i h
  have : ∀ i : Fin 16, (nums8 hexB)[i.val]'(by rw [nums8_len]; exact i.isLt) = hx (i.val : Int) := by decide +kernel
  exact this ⟨i, h⟩
theorem shr4 {m : Nat} : (0 : Int) ≤ 4 ∧ (m : Int).fdiv (2 ^ (min (4 : Int).toNat IntKind.u8.bits)) = ((m / 16 : Nat) : Int) := by
  refine ⟨by omega, ?_⟩
  show (m : Int).fdiv 16 = _
  rw [Int.fdiv_eq_ediv_of_nonneg _ (by omega)]
  omega
theorem and15 : ∀ (b : Nat), b ≤ 255 → bits .and .u8 (b : Int) 15 = ((b % 16 : Nat) : Int) := by
  intro b h
  have : ∀ b : Fin 256, bits .and .u8 (b.val : Int) 15 = ((b.val % 16 : Nat) : Int) := by decide +kernel
  exact this ⟨b, by omega⟩
theorem Builder_String {w0 w : World} {b : Nat} {v : Value} {p : Value} {xs : List Int} (hp : p = .pointer none ∨ p = .pointer (some ⟨b, 0, none⟩)) (ok : ok8 xs) (H : Hold w0 [] w [rB b 147 [p, v], rR u8 5 v xs]) : Ret Tryd.prog 98 #[.pointer (some ⟨b, 0, none⟩)] w (fun r w' => r = .string (mkS xs) ∧ Ch [] w0 w') := by
  obtain ⟨F, ⟨F1, _, rfl, ⟨rfl, hB⟩, F2, _, rfl, hW, rfl⟩, n, s, c⟩ := H
  have hW : u8.W 5 w F2 v xs := hW
  obtain ⟨Fs, cs, ho, rfl, hE⟩ := hW
  have hcs : cs = xs.map (Value.int .u8) := els_int_inv (k := .u8) (hE.imp fun _ _ _ _ h => u8.own h)
  have hbc : Lib.byteCells (xs.map fun n => UInt8.ofNat n.toNat) = cs := by
    rw [hcs]
    simp only [Lib.byteCells, List.map_map]
    apply List.map_congr_left
    intro x hx
    have := ok x hx
    simp only [Function.comp, UInt8.toNat_ofNat']
    congr 1
    omega
  have hl : w0.heap.size ≤ b := (s b (by simp)).resolve_left (fun h => by cases h)
  have hown : w.ownsRow w0.heap.size 5 1 v (Lib.byteCells (xs.map fun n => UInt8.ofNat n.toNat)).length (Lib.byteCells (xs.map fun n => UInt8.ofNat n.toNat)) := by
    rw [hbc, hcs]
    obtain ⟨h1, h2⟩ := ho
    rw [hcs] at h1 h2
    refine ⟨by simp, ?_⟩
    rcases h2 with ⟨h2, h3⟩ | ⟨g, cap, cur, rfl, hg, hh, r⟩
    · exact .inl ⟨h2, by simpa using h3⟩
    · refine .inr ⟨g, cap, cur, by simp, (s g (by simp [Value.ownBlock])).resolve_left (fun h => by cases h), hh, ?_⟩
      obtain ⟨r1, r2, r3, r4⟩ := r
      rw [show u8.sz = 1 from rfl] at r3 r4
      exact ⟨by simpa using r1, r2, r3, by simpa using r4⟩
  have hne : v.ownBlock ≠ some b := by
    intro e
    have h1 := (List.nodup_append.1 n).2.2
    exact h1 b (by simp) b (by simp [e]) rfl
  have hI : Lib.IsBuilder 147 5 w0.heap.size b (Lib.byteCells (xs.map fun n => UInt8.ofNat n.toNat)) w := by
    rcases hp with rfl | rfl
    · exact .inl ⟨hl, v, hB, hown, hne⟩
    · exact .inr ⟨hl, v, hB, hown, hne⟩
  refine Ret.of (Tryd.Builder_String_any w0.heap.size b (xs.map fun n => UInt8.ofNat n.toNat) w hI c.size) fun e w' ⟨he, hb⟩ => ⟨_, he, ?_, ?_⟩
  · congr 1
    exact ba_ext (by rw [mkS_data])
  · have c0 : Ch [] w0 w := c
    exact ⟨hb.os.trans c0.os, hb.tape.trans c0.tape, hb.output.trans c0.output, Nat.le_trans c0.size hb.size, fun k hk hn => (hb.block k hk).trans (c0.blk k hk hn)⟩
theorem WriteByte {w : World} {F : List Nat} {b : Nat} {v p : Value} {xs : List Int} {c : Int} (hp : p = .pointer none ∨ p = .pointer (some ⟨b, 0, none⟩)) (h : Hs w [rB b 147 [p, v], rR u8 5 v xs] F) (nd : F.Nodup) (lx : xs.length ≤ 1000000000) : Ret Tryd.prog 97 #[.pointer (some ⟨b, 0, none⟩), .int .u8 c] w (fun r w' => ∃ v', r = .nilIface ∧ Hold w F w' [rB b 147 [.pointer (some ⟨b, 0, none⟩), v'], rR u8 5 v' (xs ++ [c])]) := by
  rcases hp with rfl | rfl
  · exact WriteByte_fresh h nd lx
  · exact WriteByte_used h nd lx
theorem escB_plain {m : Nat} (h : 33 ≤ (m : Int) ∧ (m : Int) ≤ 126 ∧ (m : Int) ≠ 37) : escB (m : Int) = [(m : Int)] := if_pos h
theorem escB_hex {m : Nat} (h : ¬ (33 ≤ (m : Int) ∧ (m : Int) ≤ 126 ∧ (m : Int) ≠ 37)) : escB (m : Int) = [37, hx ((m / 16 : Nat) : Int), hx ((m % 16 : Nat) : Int)] := by
  rw [escB, if_neg h]; rfl
theorem impl_escape {w : World} {s : ByteArray} (hs : s.size ≤ 1000000000 / 4) : Ret Tryd.prog 70 #[.string s] w (fun r w' => r = .string (mkS (esc (nums8 s))) ∧ Ch [] w w') := by
  refine enter Tryd.func70 rfl Tryd.ntmps70 (by rfl) (by rfl) ?_
  have H0 : Hold w [] w [] := Hold.start w
  have hl := nums8_len s
  have ok := nums8_ok s
  refine sq (rg (r (sa rfl) (re (sq (rg (ef (xal ti147) ?_))))))
  rintro _ w1 ⟨g3, e1, rfl, -, b1, c1⟩
  have H1 : Hold w [] w1 [rB g3 147 ([.pointer none, .slice none 0 0])] := Hold.newB H0 e1 b1 c1
  clear H0
  clear e1 b1 c1
  refine re (sq (sq (rg (r (mv rfl) (r (lns Tryd.underlying9 rfl) (r (mv rfl) (re (bl ?_))))))))
  have H2 : Hold w [] w1 [rB g3 147 ([.pointer none, .slice none 0 0]), rR u8 5 (.slice none 0 0) ([])] := Hold.nilrow u8 5 H1
  clear H1
  refine lp (α := Nat × Value × Value) (fun (i, q, v) ρ w' => ρ 0 = .string s ∧ ρ 3 = .pointer (some ⟨g3, 0, none⟩) ∧ ρ 7 = .int .i64 (s.size : Int) ∧ ρ 8 = .int .i64 (i : Int) ∧ Hold w [] w' [rB g3 147 ([q, v]), rR u8 5 v (esc ((nums8 s).take i))] ∧ (q = .pointer none ∨ q = .pointer (some ⟨g3, 0, none⟩)) ∧ i ≤ s.size) (fun (i, q, v) => s.size - i) (0, .pointer none, .slice none 0 0) ?_ ?_
  · exact ⟨rfl, rfl, rfl, rfl, H2, ⟨.inl rfl, by omega⟩⟩
  clear H2
  rintro ⟨i, q, v⟩ ρ w503 ⟨y0, y3, y7, y8, H3, ⟨hq, hi⟩⟩
  refine sq (rg (r (bi y8 y7 rfl) (re (sq ?_))))
  refine cp rfl (fun h => ?_) (fun h => ?_)
  · have hi' : i < (nums8 s).length := by omega
    have hb := ok _ (List.getElem_mem hi')
    have hle := esc_len ((nums8 s).take i)
    rw [List.length_take] at hle
    have et := esc_take hi'
    obtain ⟨m, hm⟩ : ∃ m : Nat, (nums8 s)[i] = (m : Int) := ⟨(nums8 s)[i].toNat, by omega⟩
    rw [hm] at hb et
    refine sk (sq (bl (sq (rg (r (mv y8) (r (sa rfl) (re (sq (rg (r (mv y0) (r (mv rfl) (r (Rn.cast (v' := .int .u8 (m : Int)) (six (j := i) Tryd.underlying9 rfl rfl (by omega)) (congrArg (Value.int .u8) hm)) (r (sa rfl) (re (bl (sq (bl (sq (bl (bl (sq (sq (sq (rg (r (mv rfl) (r (bi rfl rfl rfl) (r (sa rfl) (re ?_))))))))))))))))))))))))))))
    refine cp rfl (fun h1 => ?_) (fun h1 => ?_)
    · refine ex rfl (be (sq (sq ?_)))
      refine gen (fun ρ => ρ 0 = .string s ∧ ρ 3 = .pointer (some ⟨g3, 0, none⟩) ∧ ρ 5 = .int .u8 (m : Int) ∧ ρ 7 = .int .i64 (s.size : Int) ∧ ρ 8 = .int .i64 (i : Int) ∧ True) ⟨y0, y3, rfl, y7, y8, trivial⟩ ?_
      rintro ρ ⟨z0, z3, z5, z7, z8, -⟩
      refine rg ?_
      obtain ⟨F2, hF2, n2, s2, K2⟩ := Hold.front (Γ := [rB g3 147 ([q, v]), rR u8 5 v (esc ((nums8 s).take i))]) (Δ := []) H3
      refine cl go97 (WriteByte hq hF2 n2 (by (try simp only [List.length_append, List.length_singleton]); omega)) (ac z3 (ac rfl an)) ?_
      rintro r wb24 ⟨v24, rfl, Hb24⟩
      have H4 : Hold w [] wb24 [rB g3 147 ([.pointer (some ⟨g3, 0, none⟩), v24]), rR u8 5 v24 ((esc ((nums8 s).take i)) ++ [37])] := Hold.call K2 Hb24
      clear H3
      clear K2 hF2 n2 s2
      clear Hb24
      obtain ⟨F3, hF3, n3, s3, K3⟩ := Hold.front (Γ := [rB g3 147 ([.pointer (some ⟨g3, 0, none⟩), v24]), rR u8 5 v24 ((esc ((nums8 s).take i)) ++ [37])]) (Δ := []) H4
      refine re (sq (rg (r (mv z5) (r (sr (a := (m : Int)) (b := 4) (((m / 16 : Nat) : Int)) rfl rfl (shr4)) (r (Rn.cast (v' := .int .u8 (hx ((m / 16 : Nat) : Int))) (six (j := (m / 16)) Tryd.underlying9 rfl rfl (show _ < 16 from by omega)) (congrArg (Value.int .u8) (hexB_get (m / 16) (by omega)))) (cl go97 (WriteByte (.inr rfl) hF3 n3 (by (try simp only [List.length_append, List.length_singleton]); omega)) (ac z3 (ac rfl an)) ?_))))))
      rintro r wb28 ⟨v28, rfl, Hb28⟩
      have H5 : Hold w [] wb28 [rB g3 147 ([.pointer (some ⟨g3, 0, none⟩), v28]), rR u8 5 v28 (((esc ((nums8 s).take i)) ++ [37]) ++ [hx ((m / 16 : Nat) : Int)])] := Hold.call K3 Hb28
      clear H4
      clear K3 hF3 n3 s3
      clear Hb28
      obtain ⟨F4, hF4, n4, s4, K4⟩ := Hold.front (Γ := [rB g3 147 ([.pointer (some ⟨g3, 0, none⟩), v28]), rR u8 5 v28 (((esc ((nums8 s).take i)) ++ [37]) ++ [hx ((m / 16 : Nat) : Int)])]) (Δ := []) H5
      refine re (rg (r (mv z5) (r (andl ((m % 16 : Nat) : Int) rfl rfl (and15 m (by omega))) (r (Rn.cast (v' := .int .u8 (hx ((m % 16 : Nat) : Int))) (six (j := (m % 16)) Tryd.underlying9 rfl rfl (show _ < 16 from by omega)) (congrArg (Value.int .u8) (hexB_get (m % 16) (by omega)))) (cl go97 (WriteByte (.inr rfl) hF4 n4 (by (try simp only [List.length_append, List.length_singleton]); omega)) (ac z3 (ac rfl an)) ?_)))))
      rintro r wb32 ⟨v32, rfl, Hb32⟩
      have H6 : Hold w [] wb32 [rB g3 147 ([.pointer (some ⟨g3, 0, none⟩), v32]), rR u8 5 v32 ((((esc ((nums8 s).take i)) ++ [37]) ++ [hx ((m / 16 : Nat) : Int)]) ++ [hx ((m % 16 : Nat) : Int)])] := Hold.call K4 Hb32
      clear H5
      clear K4 hF4 n4 s4
      clear Hb32
      refine re (ex rfl (be (rg (r (ad (a := (i : Int)) (b := 1) ((i : Int) + 1) z8 rfl (by omega)) (r (mv rfl) (re ?_))))))
      have ee := et.trans (congrArg (esc ((nums8 s).take i) ++ ·) (escB_hex (by omega)))
      exact ag (i + 1, .pointer (some ⟨g3, 0, none⟩), v32) ⟨z0, z3, z7, rfl, (by rw [ee]; simpa only [List.append_assoc, List.cons_append, List.nil_append] using H6), ⟨.inr rfl, by omega⟩⟩ (by first | omega | (dsimp only; omega))
    · refine sk (sq ?_)
      refine gen (fun ρ => ρ 0 = .string s ∧ ρ 3 = .pointer (some ⟨g3, 0, none⟩) ∧ ρ 5 = .int .u8 (m : Int) ∧ ρ 7 = .int .i64 (s.size : Int) ∧ ρ 8 = .int .i64 (i : Int) ∧ True) ⟨y0, y3, rfl, y7, y8, trivial⟩ ?_
      rintro ρ ⟨z0, z3, z5, z7, z8, -⟩
      refine rg (r (mv z5) (r (bi rfl rfl rfl) (r (mv rfl) ?_)))
      refine sp 20 rfl (fun h2 => ?_) (fun h2 => ?_)
      · refine gn rfl rfl rfl (gn rfl rfl rfl (r (pk rfl rfl) (r (sa rfl) (re (ct rfl (ex rfl (sq (sq (rg ?_)))))))))
        obtain ⟨F2, hF2, n2, s2, K2⟩ := Hold.front (Γ := [rB g3 147 ([q, v]), rR u8 5 v (esc ((nums8 s).take i))]) (Δ := []) H3
        refine cl go97 (WriteByte hq hF2 n2 (by (try simp only [List.length_append, List.length_singleton]); omega)) (ac z3 (ac rfl an)) ?_
        rintro r wb24 ⟨v24, rfl, Hb24⟩
        have H4 : Hold w [] wb24 [rB g3 147 ([.pointer (some ⟨g3, 0, none⟩), v24]), rR u8 5 v24 ((esc ((nums8 s).take i)) ++ [37])] := Hold.call K2 Hb24
        clear H3
        clear K2 hF2 n2 s2
        clear Hb24
        obtain ⟨F3, hF3, n3, s3, K3⟩ := Hold.front (Γ := [rB g3 147 ([.pointer (some ⟨g3, 0, none⟩), v24]), rR u8 5 v24 ((esc ((nums8 s).take i)) ++ [37])]) (Δ := []) H4
        refine re (sq (rg (r (mv z5) (r (sr (a := (m : Int)) (b := 4) (((m / 16 : Nat) : Int)) rfl rfl (shr4)) (r (Rn.cast (v' := .int .u8 (hx ((m / 16 : Nat) : Int))) (six (j := (m / 16)) Tryd.underlying9 rfl rfl (show _ < 16 from by omega)) (congrArg (Value.int .u8) (hexB_get (m / 16) (by omega)))) (cl go97 (WriteByte (.inr rfl) hF3 n3 (by (try simp only [List.length_append, List.length_singleton]); omega)) (ac z3 (ac rfl an)) ?_))))))
        rintro r wb28 ⟨v28, rfl, Hb28⟩
        have H5 : Hold w [] wb28 [rB g3 147 ([.pointer (some ⟨g3, 0, none⟩), v28]), rR u8 5 v28 (((esc ((nums8 s).take i)) ++ [37]) ++ [hx ((m / 16 : Nat) : Int)])] := Hold.call K3 Hb28
        clear H4
        clear K3 hF3 n3 s3
        clear Hb28
        refine re ?_
        refine gen (fun ρ => ρ 0 = .string s ∧ ρ 3 = .pointer (some ⟨g3, 0, none⟩) ∧ ρ 5 = .int .u8 (m : Int) ∧ ρ 7 = .int .i64 (s.size : Int) ∧ ρ 8 = .int .i64 (i : Int) ∧ True) ⟨z0, z3, z5, z7, z8, trivial⟩ ?_
        rintro ρ ⟨z0, z3, z5, z7, z8, -⟩
        obtain ⟨F4, hF4, n4, s4, K4⟩ := Hold.front (Γ := [rB g3 147 ([.pointer (some ⟨g3, 0, none⟩), v28]), rR u8 5 v28 (((esc ((nums8 s).take i)) ++ [37]) ++ [hx ((m / 16 : Nat) : Int)])]) (Δ := []) H5
        refine rg (r (mv z5) (r (andl ((m % 16 : Nat) : Int) rfl rfl (and15 m (by omega))) (r (Rn.cast (v' := .int .u8 (hx ((m % 16 : Nat) : Int))) (six (j := (m % 16)) Tryd.underlying9 rfl rfl (show _ < 16 from by omega)) (congrArg (Value.int .u8) (hexB_get (m % 16) (by omega)))) (cl go97 (WriteByte (.inr rfl) hF4 n4 (by (try simp only [List.length_append, List.length_singleton]); omega)) (ac z3 (ac rfl an)) ?_))))
        rintro r wb32 ⟨v32, rfl, Hb32⟩
        have H6 : Hold w [] wb32 [rB g3 147 ([.pointer (some ⟨g3, 0, none⟩), v32]), rR u8 5 v32 ((((esc ((nums8 s).take i)) ++ [37]) ++ [hx ((m / 16 : Nat) : Int)]) ++ [hx ((m % 16 : Nat) : Int)])] := Hold.call K4 Hb32
        clear H5
        clear K4 hF4 n4 s4
        clear Hb32
        refine re (ex rfl (be (rg (r (ad (a := (i : Int)) (b := 1) ((i : Int) + 1) z8 rfl (by omega)) (r (mv rfl) (re ?_))))))
        have ee := et.trans (congrArg (esc ((nums8 s).take i) ++ ·) (escB_hex (by omega)))
        exact ag (i + 1, .pointer (some ⟨g3, 0, none⟩), v32) ⟨z0, z3, z7, rfl, (by rw [ee]; simpa only [List.append_assoc, List.cons_append, List.nil_append] using H6), ⟨.inr rfl, by omega⟩⟩ (by first | omega | (dsimp only; omega))
      · refine gy rfl rfl rfl (r (mv z5) (gy rfl rfl rfl (r (bi rfl rfl rfl) (r (pk rfl rfl) (r (sa rfl) (re ?_))))))
        refine cp rfl (fun h3 => ?_) (fun h3 => ?_)
        · refine ex rfl (sq (sq (rg ?_)))
          obtain ⟨F2, hF2, n2, s2, K2⟩ := Hold.front (Γ := [rB g3 147 ([q, v]), rR u8 5 v (esc ((nums8 s).take i))]) (Δ := []) H3
          refine cl go97 (WriteByte hq hF2 n2 (by (try simp only [List.length_append, List.length_singleton]); omega)) (ac z3 (ac rfl an)) ?_
          rintro r wb24 ⟨v24, rfl, Hb24⟩
          have H4 : Hold w [] wb24 [rB g3 147 ([.pointer (some ⟨g3, 0, none⟩), v24]), rR u8 5 v24 ((esc ((nums8 s).take i)) ++ [37])] := Hold.call K2 Hb24
          clear H3
          clear K2 hF2 n2 s2
          clear Hb24
          obtain ⟨F3, hF3, n3, s3, K3⟩ := Hold.front (Γ := [rB g3 147 ([.pointer (some ⟨g3, 0, none⟩), v24]), rR u8 5 v24 ((esc ((nums8 s).take i)) ++ [37])]) (Δ := []) H4
          refine re (sq (rg (r (mv z5) (r (sr (a := (m : Int)) (b := 4) (((m / 16 : Nat) : Int)) rfl rfl (shr4)) (r (Rn.cast (v' := .int .u8 (hx ((m / 16 : Nat) : Int))) (six (j := (m / 16)) Tryd.underlying9 rfl rfl (show _ < 16 from by omega)) (congrArg (Value.int .u8) (hexB_get (m / 16) (by omega)))) (cl go97 (WriteByte (.inr rfl) hF3 n3 (by (try simp only [List.length_append, List.length_singleton]); omega)) (ac z3 (ac rfl an)) ?_))))))
          rintro r wb28 ⟨v28, rfl, Hb28⟩
          have H5 : Hold w [] wb28 [rB g3 147 ([.pointer (some ⟨g3, 0, none⟩), v28]), rR u8 5 v28 (((esc ((nums8 s).take i)) ++ [37]) ++ [hx ((m / 16 : Nat) : Int)])] := Hold.call K3 Hb28
          clear H4
          clear K3 hF3 n3 s3
          clear Hb28
          refine re ?_
          refine gen (fun ρ => ρ 0 = .string s ∧ ρ 3 = .pointer (some ⟨g3, 0, none⟩) ∧ ρ 5 = .int .u8 (m : Int) ∧ ρ 7 = .int .i64 (s.size : Int) ∧ ρ 8 = .int .i64 (i : Int) ∧ True) ⟨z0, z3, z5, z7, z8, trivial⟩ ?_
          rintro ρ ⟨z0, z3, z5, z7, z8, -⟩
          obtain ⟨F4, hF4, n4, s4, K4⟩ := Hold.front (Γ := [rB g3 147 ([.pointer (some ⟨g3, 0, none⟩), v28]), rR u8 5 v28 (((esc ((nums8 s).take i)) ++ [37]) ++ [hx ((m / 16 : Nat) : Int)])]) (Δ := []) H5
          refine rg (r (mv z5) (r (andl ((m % 16 : Nat) : Int) rfl rfl (and15 m (by omega))) (r (Rn.cast (v' := .int .u8 (hx ((m % 16 : Nat) : Int))) (six (j := (m % 16)) Tryd.underlying9 rfl rfl (show _ < 16 from by omega)) (congrArg (Value.int .u8) (hexB_get (m % 16) (by omega)))) (cl go97 (WriteByte (.inr rfl) hF4 n4 (by (try simp only [List.length_append, List.length_singleton]); omega)) (ac z3 (ac rfl an)) ?_))))
          rintro r wb32 ⟨v32, rfl, Hb32⟩
          have H6 : Hold w [] wb32 [rB g3 147 ([.pointer (some ⟨g3, 0, none⟩), v32]), rR u8 5 v32 ((((esc ((nums8 s).take i)) ++ [37]) ++ [hx ((m / 16 : Nat) : Int)]) ++ [hx ((m % 16 : Nat) : Int)])] := Hold.call K4 Hb32
          clear H5
          clear K4 hF4 n4 s4
          clear Hb32
          refine re (ex rfl (be (rg (r (ad (a := (i : Int)) (b := 1) ((i : Int) + 1) z8 rfl (by omega)) (r (mv rfl) (re ?_))))))
          have ee := et.trans (congrArg (esc ((nums8 s).take i) ++ ·) (escB_hex (by omega)))
          exact ag (i + 1, .pointer (some ⟨g3, 0, none⟩), v32) ⟨z0, z3, z7, rfl, (by rw [ee]; simpa only [List.append_assoc, List.cons_append, List.nil_append] using H6), ⟨.inr rfl, by omega⟩⟩ (by first | omega | (dsimp only; omega))
        · obtain ⟨F2, hF2, n2, s2, K2⟩ := Hold.front (Γ := [rB g3 147 ([q, v]), rR u8 5 v (esc ((nums8 s).take i))]) (Δ := []) H3
          refine sk (ex rfl (sq (rg (r (mv z5) (cl go97 (WriteByte hq hF2 n2 (by (try simp only [List.length_append, List.length_singleton]); omega)) (ac z3 (ac rfl an)) ?_)))))
          rintro r wb34 ⟨v34, rfl, Hb34⟩
          have H4 : Hold w [] wb34 [rB g3 147 ([.pointer (some ⟨g3, 0, none⟩), v34]), rR u8 5 v34 ((esc ((nums8 s).take i)) ++ [(m : Int)])] := Hold.call K2 Hb34
          clear H3
          clear K2 hF2 n2 s2
          clear Hb34
          refine re (ex rfl (be (rg (r (ad (a := (i : Int)) (b := 1) ((i : Int) + 1) z8 rfl (by omega)) (r (mv rfl) (re ?_))))))
          have ee := et.trans (congrArg (esc ((nums8 s).take i) ++ ·) (escB_plain (by omega)))
          exact ag (i + 1, .pointer (some ⟨g3, 0, none⟩), v34) ⟨z0, z3, z7, rfl, (by rw [ee]; exact H4), ⟨.inr rfl, by omega⟩⟩ (by first | omega | (dsimp only; omega))
  · have ei : i = (nums8 s).length := by omega
    rw [ei, List.take_length] at H3
    refine ex rfl (sq (rg (cl go98 (Builder_String hq (esc_ok ok) H3) (ac y3 an) ?_)))
    rintro r wS ⟨rfl, cS⟩
    have H4 : Hold w [] wS [] := hold_ch cS
    clear H3
    refine r (sa rfl) (re (rt ?_))
    exact fin1 (v := .string (mkS (esc (nums8 s)))) Tryd.results70 rfl ⟨rfl, Hold.ch H4⟩
