/-
  THE LAW'S WALK: FnBytes (inodes, tables, headers there and back). No condition.
-/
import Derived.Test.YtgpcanjmgdmdhaaDoor63
import Derived.Test.YtgpcanjmgdmdhaaDoor61
import Derived.Test.YtgpcanjmgdmdhaaDoor31
import Derived.Test.YtgpcanjmgdmdhaaDoor12
import Derived.Laws.Small
namespace Go.Eng
theorem eqfb {P : Program} {w : World} {f : Field} {fs : List Field} {dd : Nat} {a b : Bool} {xs ys : Array Value} (hn : (f.name == "_") = false) (hp : P.plainKey f.type = true) (hu : P.underlying f.type = some .bool) (hx : xs[f.offset]? = some (.bool a)) (hy : ys[f.offset]? = some (.bool b)) :
    (Op.eqFields (dd + 1) xs ys (f :: fs)).run P w = if a = b then (Op.eqFields (dd + 1) xs ys fs).run P w else .ok false w := by
  have hn' : f.name ≠ "_" := by simpa using hn
  have h1 := run_part_plain (P := P) (w := w) hp hx
  have h2 := run_part_plain (P := P) (w := w) hp hy
  simp only [Op.eqFields, hn', ne_eq, not_false_eq_true, if_true, Sem.run_bind, h1, h2, Result.andThen_ok, run_equalIn_bool w dd f.type a b hu]
  cases a <;> cases b <;> simp
end Go.Eng
namespace Go.Proofs.YtgpcanjmgdmdhaaDoor
open Go Go.Eng
set_option maxRecDepth 100000
set_option maxHeartbeats 4000000
set_option linter.unusedVariables false
set_option linter.unusedSimpArgs false
theorem eqEnt {w : World} {x1 y1 : Int} {x2 y2 : Bool} : (Op.equalIn 10000 44 (.agg #[.int .i64 x1, .bool x2]) (.agg #[.int .i64 y1, .bool y2])).run Tryd.prog w = .ok (decide ((x1, x2) = (y1, y2))) w := by
  rw [show (10000 : Nat) = 9999 + 1 from rfl, run_equalIn_struct w 9999 44 _ _ (by kernel_rfl) (by kernel_rfl)]
  rw [show (Tryd.prog.fieldsOf 44).toList = [_, _] from rfl, eqf (k := .i64) (by rfl) (by kernel_rfl) (by kernel_rfl) (by rfl) (by rfl), eqfb (by rfl) (by kernel_rfl) (by kernel_rfl) (by rfl) (by rfl)]
  simp only [Op.eqFields, Sem.run_pure, Prod.mk.injEq]
  by_cases h1 : x1 = y1 <;> by_cases h2 : x2 = y2 <;> simp [h1, h2]
theorem eqHdr2 {w : World} {x1 x2 x3 y1 y2 y3 : Int} : (Op.equalIn 10000 46 (.agg #[.int .i64 x1, .int .i64 x2, .int .i64 x3]) (.agg #[.int .i64 y1, .int .i64 y2, .int .i64 y3])).run Tryd.prog w = .ok (decide ((x1, x2, x3) = (y1, y2, y3))) w := by
  rw [show (10000 : Nat) = 9999 + 1 from rfl, run_equalIn_struct w 9999 46 _ _ (by kernel_rfl) (by kernel_rfl)]
  rw [show (Tryd.prog.fieldsOf 46).toList = [_, _, _] from rfl, eqf (k := .i64) (by rfl) (by kernel_rfl) (by kernel_rfl) (by rfl) (by rfl), eqf (k := .i64) (by rfl) (by kernel_rfl) (by kernel_rfl) (by rfl) (by rfl), eqf (k := .i64) (by rfl) (by kernel_rfl) (by kernel_rfl) (by rfl) (by rfl)]
  simp only [Op.eqFields, Sem.run_pure, Prod.mk.injEq]
  by_cases h1 : x1 = y1 <;> by_cases h2 : x2 = y2 <;> by_cases h3 : x3 = y3 <;> simp [h1, h2, h3]
theorem ok8_wy {xs : List Int} (h : ∀ x, x ∈ xs → (Lit.int .u8 x).wf = true) : ok8 xs := fun x hx => by
  have := h x hx
  simp [Lit.wf, IntKind.min, IntKind.max, IntKind.signed, IntKind.bits] at this
  omega
/-! ### There and back -/
theorem big2_at (l : List (Int × Int)) (hl : ∀ x, x ∈ l → x.1 = 2 ∧ 0 ≤ x.2 ∧ x.2 < 65536) (tl : List Int) : ∀ (i : Nat) (h : i < l.length), unbig (((flat l ++ tl).drop (2 * i)).take 2) = l[i].2 := by
  induction l with
  | nil => intro i h; cases h
  | cons x l ih =>
    intro i h
    obtain ⟨h1, h2, h3⟩ := hl x (by simp)
    have e : flat (x :: l) = big x.2 2 ++ flat l := by simp [flat, h1]
    rw [e]
    cases i with
    | zero =>
      rw [Nat.mul_zero, List.drop_zero, List.append_assoc, List.take_append_of_le_length (by rw [big_len]; omega), List.take_of_length_le (by rw [big_len]; omega), unbig_of_big 2 x.2 h2 (by rw [p2]; omega)]
      rfl
    | succ i =>
      rw [show 2 * (i + 1) = (big x.2 2).length + 2 * i by rw [big_len]; omega, List.append_assoc, List.drop_length_add_append, ih (fun y hy => hl y (by simp [hy])) i (by simpa using h)]
      rfl
theorem encI_dec {nm : List Int} {z : Int} {ls : List Int} (h : inoOk nm z ls) : inN (encI nm z ls) = nm ∧ inZ (encI nm z ls) = z ∧ inLs (encI nm z ls) = ls := by
  obtain ⟨⟨o1, o2, o3⟩, o4, o5, o6, o7⟩ := h
  have hV : ∀ x, x ∈ inoV nm z ls → x.1 = 2 ∧ 0 ≤ x.2 ∧ x.2 < 65536 := by
    intro x hx
    simp only [inoV, List.mem_cons, List.mem_map] at hx
    rcases hx with rfl | ⟨y, hy, rfl⟩
    · exact ⟨rfl, o4, by show z < 65536; omega⟩
    · have := o7 y hy; exact ⟨rfl, by show 0 ≤ y; omega, by show y < 65536; omega⟩
  have hp : (nm ++ List.replicate (16 - nm.length) (0 : Int)).length = 16 := by simp; omega
  have hd : ∀ k, (encI nm z ls).drop (16 + k) = (flat (inoV nm z ls) ++ List.replicate (48 - (flat (inoV nm z ls)).length) 0).drop k := by
    intro k
    rw [encI, List.append_assoc, show 16 + k = (nm ++ List.replicate (16 - nm.length) (0 : Int)).length + k by rw [hp], List.drop_length_add_append]
  have hz : inZ (encI nm z ls) = z := by
    have := big2_at (inoV nm z ls) hV (List.replicate (48 - (flat (inoV nm z ls)).length) 0) 0 (by simp [inoV])
    rw [inZ, show (16 : Nat) = 16 + 0 from rfl, hd, show 0 = 2 * 0 from rfl, this]; rfl
  refine ⟨?_, hz, ?_⟩
  · have e16 : (encI nm z ls).take 16 = nm ++ List.replicate (16 - nm.length) 0 := by
      rw [encI, List.append_assoc, List.take_append_of_le_length (by omega), List.take_of_length_le (by omega)]
    rw [inN, e16, tw_trim (k := nm.length) (fun b hb => nameB_ne (o1 b (by simpa using hb))) (fun j h hj => by rw [List.getElem_append_right hj]; simp)]
    simp
  · rw [inLs, hz, show ((z + 63) / 64).toNat = ls.length by omega]
    apply List.ext_getElem
    · simp [inL]
    · intro i h1 h2
      have hi : i < ls.length := h2
      have := big2_at (inoV nm z ls) hV (List.replicate (48 - (flat (inoV nm z ls)).length) 0) (i + 1) (by simp [inoV]; omega)
      simp only [inL, List.getElem_map, List.getElem_range]
      rw [show 18 + 2 * i = 16 + 2 * (i + 1) by omega, hd, this]
      simp [inoV]
theorem encI_decI {nm : List Int} {z : Int} {ls : List Int} (h : inoOk nm z ls) : decI (encI nm z ls) := by
  obtain ⟨h1, h2, h3⟩ := encI_dec h
  refine ⟨encI_len h, ?_, ?_⟩
  · rw [h1, h2, h3]; exact h
  · rw [h1, h2, h3]
theorem tabB_flat (xs : List (Int × Bool)) : tabB xs = flat (xs.map fun x => (2, entV x)) := by
  simp only [tabB, flat, List.flatMap_map]
  rfl
theorem decE_V {x : Int × Bool} (h : ent x) : decE (entV x) = x := by
  obtain ⟨a, b⟩ := x
  have h1 : 0 ≤ a ∧ a ≤ 32767 := ⟨h.1, h.2.1⟩
  cases b
  · simp only [decE, entV, Bool.false_eq_true, if_false, Prod.mk.injEq]; exact ⟨by omega, decide_eq_false (by omega)⟩
  · simp only [decE, entV, if_true, Prod.mk.injEq]; exact ⟨by omega, decide_eq_true (by omega)⟩
theorem tab_back {xs : List (Int × Bool)} (hl : xs.length ≤ 1024) (h : ∀ x, x ∈ xs → ent x) : decTable (tabB xs) = (true, xs) := by
  have hlen := tabB_len xs
  have hE : entsB (tabB xs) xs.length = xs := by
    apply List.ext_getElem
    · simp [entsB]
    · intro i h1 h2
      have hx := h _ (List.getElem_mem h2)
      have := big2_at (xs.map fun x => (2, entV x)) (fun y hy => by
        obtain ⟨x, hx, rfl⟩ := List.mem_map.1 hy
        obtain ⟨e1, e2, e3⟩ := h x hx
        refine ⟨rfl, ?_, ?_⟩ <;> (simp only [entV]; split <;> omega)) [] i (by simpa using h2)
      simp only [entsB, List.getElem_map, List.getElem_range, ntE]
      rw [tabB_flat, ← List.append_nil (flat _), this]
      simp only [List.getElem_map]
      exact decE_V hx
  have e2 : (tabB xs).length / 2 = xs.length := by omega
  rw [decTable, if_pos ⟨by omega, by omega, by rw [e2, hE]; exact h⟩, e2, hE]
theorem ok8_encT {xs : List (Int × Bool)} : ok8 (encTable xs) := by
  unfold encTable
  split
  · rw [tabB_flat]; exact ok8_flat
  · intro x hx; cases hx
theorem encT_back {xs : List (Int × Bool)} (h : 0 < (encTable xs).length) : decTable (encTable xs) = (true, xs) := by
  unfold encTable at h ⊢
  split
  · rename_i hh; exact tab_back hh.1 hh.2
  · rename_i hh; rw [if_neg hh] at h; cases h
theorem encT_len {xs : List (Int × Bool)} : (encTable xs).length ≤ 2048 := by
  unfold encTable; split
  · rename_i h; rw [tabB_len]; omega
  · simp
theorem spec_EncodeTable_H {w : World} {F : List Nat} {v : Value} {xs : List (Int × Bool)} (hx : kE.R w F v xs) (lx : xs.length ≤ 1000000000) : Ret Tryd.prog 20 #[v] w (fun r w' => Hold w [] w' [rR u8 5 r (encTable xs)]) := Ret.hold (d := u8) (spec_EncodeTable hx lx)
theorem impl_EncodeTable_H {w : World} {F : List Nat} {v : Value} {xs : List (Int × Bool)} (hx : kE.R w F v xs) (lx : xs.length ≤ 1000000000) : Ret Tryd.prog 19 #[v] w (fun r w' => Hold w [] w' [rR u8 5 r (encTable xs)]) := Ret.hold (d := u8) (impl_EncodeTable hx lx)
theorem spec_EncHdr_H {w : World} {q s b : Int} : Ret Tryd.prog 24 #[.agg #[.int .i64 q, .int .i64 s, .int .i64 b]] w (fun r w' => Hold w [] w' [rR u8 5 r (encHeader q s b)]) :=
  Calls.mono spec_EncodeHeader fun _ _ h => h.imp fun _ h => ⟨h.1, hold_new h.2.1 h.2.2⟩
theorem impl_EncHdr_H {w : World} {q s b : Int} : Ret Tryd.prog 23 #[.agg #[.int .i64 q, .int .i64 s, .int .i64 b]] w (fun r w' => ∃ e, Hold w [] w' [rR u8 e r (encHeader q s b)]) :=
  Calls.mono impl_EncodeHeader fun _ _ h => h.imp fun _ h => ⟨h.1, h.2.1.imp fun e he => hold_new he h.2.2⟩
theorem DrawEncodeInode {w : World} {F : List Nat} {v : Value} {xs : List Int} (hx : u8.R w F v xs) (lx : xs.length ≤ 1000000000) (ok : ok8 xs) :
    Ret Tryd.prog 15 #[v] w (fun r w' => ∃ (nm : ByteArray) (z : Int) (ls : List Int) (u : Value), r = .agg #[.string nm, .int .i64 z, u] ∧ nm.size ≤ 16 ∧ ls.length ≤ 50 ∧ Hold w [] w' [rR i64 2 u ls]) := by
  refine enter Tryd.func15 rfl Tryd.ntmps15 (by rfl) (by rfl) ?_
  have H0 : Hold w [] w [] := Hold.start w
  refine sq (rg (ef (xal ti25) ?_))
  rintro _ w1 ⟨g2, e1, rfl, -, b1, c1⟩
  have H1 : Hold w [] w1 [rB g2 25 ([.string ⟨#[]⟩, .int .i64 0, .slice none 0 0])] := Hold.newB H0 e1 b1 c1
  clear H0
  clear e1 b1 c1
  refine re (sq (rg (r (mv rfl) (cl go52 (l1Source (hx.t (Hold.ch H1)) lx ok) (ac rfl an) ?_))))
  rintro r ws ⟨g, u, rfl, Hs1⟩
  have H2 : Hold w [] ws [rB g2 25 ([.string ⟨#[]⟩, .int .i64 0, .slice none 0 0]), rB g 141 ([u, .int .i64 ((srcOf xs).pt : Int), .int .i64 ((srcOf xs).mix), .int .i64 ((srcOf xs).size)]), rR u8 5 u ((srcOf xs).code)] := Hold.news H1 Hs1
  clear H1
  clear Hs1
  have H3 : Hold w [] ws [rB g 141 ([u, .int .i64 ((srcOf xs).pt : Int), .int .i64 ((srcOf xs).mix), .int .i64 ((srcOf xs).size)]), rR u8 5 u ((srcOf xs).code), rB g2 25 ([.string ⟨#[]⟩, .int .i64 0, .slice none 0 0])] := Hold.re H2 [1, 2, 0] (by kernel_rfl) (by rfl)
  clear H2
  obtain ⟨F3, hF3, n3, s3, K3⟩ := Hold.front (Γ := [rB g 141 ([u, .int .i64 ((srcOf xs).pt : Int), .int .i64 ((srcOf xs).mix), .int .i64 ((srcOf xs).size)]), rR u8 5 u ((srcOf xs).code)]) (Δ := [rB g2 25 ([.string ⟨#[]⟩, .int .i64 0, .slice none 0 0])]) H3
  refine cl go51 (l2DrawInode hF3 n3 (srcOf_ok ok)) (ac rfl an) ?_
  rintro r wd ⟨nm, z, ls, o, s', rfl, hn, hl, ok', Hd⟩
  have H4 : Hold w [] wd [rB g 141 ([u, .int .i64 (s'.pt : Int), .int .i64 s'.mix, .int .i64 s'.size]), rR u8 5 u s'.code, rR i64 2 o ls, rB g2 25 ([.string ⟨#[]⟩, .int .i64 0, .slice none 0 0])] := Hold.call K3 Hd
  clear H3
  clear K3 hF3 n3 s3
  clear Hd
  have b4 : B wd g2 25 ([.string ⟨#[]⟩, .int .i64 0, .slice none 0 0]) := Hold.blk H4 3 rfl
  obtain ⟨_, R6⟩ : ∃ F, Kd.R i64 wd F o ls := Hold.row H4 2 rfl
  refine ef0 (xst (vs := [.string nm, .int .i64 z, o]) ti25 rfl rfl rfl b4 rfl (Nat.le_of_ble_eq_true rfl) (oc rfl (oc rfl (oc (R6).oneCell on)))) ?_
  rintro w5 ⟨-, b5, c5⟩
  have H5 : Hold w [] w5 [rB g 141 ([u, .int .i64 (s'.pt : Int), .int .i64 s'.mix, .int .i64 s'.size]), rR u8 5 u s'.code, rR i64 2 o ls, rB g2 25 ([.string nm, .int .i64 z, o])] := Hold.setB H4 3 rfl b5 c5 rfl
  clear H4
  clear b5 c5
  refine re (rt ?_)
  have b7 : B w5 g2 25 ([.string nm, .int .i64 z, o]) := Hold.blk H5 3 rfl
  have H6 : Hold w [] w5 [rR i64 2 o ls] := (show Hold w [] w5 ([rR i64 2 o ls] ++ [rB g 141 ([u, .int .i64 (s'.pt : Int), .int .i64 s'.mix, .int .i64 s'.size]), rR u8 5 u s'.code, rB g2 25 ([.string nm, .int .i64 z, o])]) from Hold.re H5 [2, 0, 1, 3] (by kernel_rfl) (by rfl)).drop
  clear H5
  exact finc  (cs := [.string nm, .int .i64 z, o]) Tryd.results15 Tryd.underlying25 rfl ti25 rfl b7 rfl  ⟨_, _, _, _, rfl, hn, hl, H6⟩
theorem DrawEncodeTable {w : World} {F : List Nat} {v : Value} {xs : List Int} (hx : u8.R w F v xs) (lx : xs.length ≤ 1000000000) (ok : ok8 xs) :
    Ret Tryd.prog 18 #[v] w (fun r w' => ∃ (t : List (Int × Bool)), t.length ≤ 2000 ∧ Hold w [] w' [rR kE 44 r t]) := by
  refine enter Tryd.func18 rfl Tryd.ntmps18 (by rfl) (by rfl) ?_
  have H0 : Hold w [] w [] := Hold.start w
  refine sq (rg (r (sa rfl) (re (sq (rg (r (mv rfl) (cl go52 (l1Source (hx.t (Hold.ch H0)) lx ok) (ac rfl an) ?_)))))))
  rintro r ws ⟨g, u, rfl, Hs1⟩
  have H1 : Hold w [] ws [rB g 141 ([u, .int .i64 ((srcOf xs).pt : Int), .int .i64 ((srcOf xs).mix), .int .i64 ((srcOf xs).size)]), rR u8 5 u ((srcOf xs).code)] := Hold.news H0 Hs1
  clear H0
  clear Hs1
  obtain ⟨F2, hF2, n2, s2, K2⟩ := Hold.front (Γ := [rB g 141 ([u, .int .i64 ((srcOf xs).pt : Int), .int .i64 ((srcOf xs).mix), .int .i64 ((srcOf xs).size)]), rR u8 5 u ((srcOf xs).code)]) (Δ := []) H1
  refine cl go56 (l2DrawTable hF2 n2 (srcOf_ok ok)) (ac rfl an) ?_
  rintro o wd ⟨t, s', ht, ok', Hd⟩
  have H2 : Hold w [] wd [rB g 141 ([u, .int .i64 (s'.pt : Int), .int .i64 s'.mix, .int .i64 s'.size]), rR u8 5 u s'.code, rR kE 44 o t] := Hold.call K2 Hd
  clear H1
  clear K2 hF2 n2 s2
  clear Hd
  refine r (sa rfl) (re (rt ?_))
  have H3 : Hold w [] wd [rR kE 44 o t] := (show Hold w [] wd ([rR kE 44 o t] ++ [rB g 141 ([u, .int .i64 (s'.pt : Int), .int .i64 s'.mix, .int .i64 s'.size]), rR u8 5 u s'.code]) from Hold.re H2 [2, 0, 1] (by kernel_rfl) (by rfl)).drop
  clear H2
  exact fin1 (v := o) Tryd.results18 rfl ⟨_, ht, H3⟩
theorem w_FnBytes {w : World} {F : List Nat} {v : Value} {xs : List Int} (hx : u8.R w F v xs) (l0 : xs.length ≤ 9223372036854775807) (ok : ok8 xs) :
    Ret Tryd.prog 4 #[v] w (fun r w' => r = .bool true ∧ Ch [] w w') := by
  refine enter Tryd.func4 rfl Tryd.ntmps4 (by rfl) (by rfl) ?_
  have H0 : Hold w [] w [] := Hold.start w
  refine sq (rg (r (sa rfl) (re (sq (sq (rg (r (mv rfl) (r (ln Tryd.underlying22 rfl ((hx.t (Hold.ch H0)))) (r (bi rfl rfl rfl) (re ?_))))))))))
  refine cp rfl (fun h => ?_) (fun h => ?_)
  · refine sq (rg (r (sa rfl) (re (rt ?_))))
    exact fin1 (v := .bool true) Tryd.results4 rfl ⟨rfl, Hold.ch H0⟩
  · have lx : xs.length ≤ 1000000000 := by omega
    refine sk (sq (rg (r (mv rfl) (cl go15 (DrawEncodeInode (hx.t (Hold.ch H0)) lx ok) (ac rfl an) ?_))))
    rintro r wd ⟨nm, z, ls, u, rfl, hnm, hls, Hd⟩
    have H1 : Hold w [] wd [rR i64 2 u ls] := Hold.news H0 Hd
    clear H0
    clear Hd
    refine ef (xal ti25) ?_
    rintro _ w2 ⟨g3, e2, rfl, -, b2, c2⟩
    have H2 : Hold w [] w2 [rR i64 2 u ls, rB g3 25 ([.string ⟨#[]⟩, .int .i64 0, .slice none 0 0])] := Hold.newB H1 e2 b2 c2
    clear H1
    clear e2 b2 c2
    have b3 : B w2 g3 25 ([.string ⟨#[]⟩, .int .i64 0, .slice none 0 0]) := Hold.blk H2 1 rfl
    obtain ⟨_, R5⟩ : ∃ F, Kd.R i64 w2 F u ls := Hold.row H2 0 rfl
    refine ef0 (xst (vs := [.string nm, .int .i64 z, u]) ti25 rfl rfl rfl b3 rfl (Nat.le_of_ble_eq_true rfl) (oc rfl (oc rfl (oc (R5).oneCell on)))) ?_
    rintro w4 ⟨-, b4, c4⟩
    have H3 : Hold w [] w4 [rR i64 2 u ls, rB g3 25 ([.string nm, .int .i64 z, u])] := Hold.setB H2 1 rfl b4 c4 rfl
    clear H2
    clear b4 c4
    have b6 : B w4 g3 25 ([.string nm, .int .i64 z, u]) := Hold.blk H3 1 rfl
    obtain ⟨_, R8⟩ : ∃ F, Kd.R i64 w4 F u ls := Hold.row H3 0 rfl
    refine re (sq (rg (r (lab [.string nm, .int .i64 z, u] Tryd.underlying25 rfl ti25 rfl b6 rfl rfl) (cl go16 (impl_EncodeInode (by omega) R8 (by omega)) (ac rfl an) ?_))))
    rintro b we ⟨eb, He⟩
    have H4 : Hold w [] we [rR i64 2 u ls, rB g3 25 ([.string nm, .int .i64 z, u]), rR u8 eb b (encIno (nums8 nm) z ls)] := Hold.news H3 He
    clear H3
    clear He
    refine r (sa rfl) (re (sq (sq ?_)))
    refine gen (fun ρ => ρ 0 = v ∧ ρ 2 = .bool false ∧ ρ 3 = .pointer (some ⟨g3, 0, none⟩) ∧ ρ 4 = b ∧ True) ⟨rfl, rfl, rfl, rfl, trivial⟩ ?_
    rintro ρ ⟨z0, z2, z3, z4, -⟩
    have b9 : B we g3 25 ([.string nm, .int .i64 z, u]) := Hold.blk H4 1 rfl
    obtain ⟨_, R11⟩ : ∃ F, Kd.R i64 we F u ls := Hold.row H4 0 rfl
    refine rg (r (lab [.string nm, .int .i64 z, u] Tryd.underlying25 rfl ti25 z3 b9 rfl rfl) (cl go17 (spec_EncodeInode (by omega) R11 (by omega)) (ac rfl an) ?_))
    rintro b2 we2 ⟨eb2, He2⟩
    have H5 : Hold w [] we2 [rR i64 2 u ls, rB g3 25 ([.string nm, .int .i64 z, u]), rR u8 eb b (encIno (nums8 nm) z ls), rR u8 eb2 b2 (encIno (nums8 nm) z ls)] := Hold.news H4 He2
    clear H4
    clear He2
    obtain ⟨_, R12⟩ : ∃ F, Kd.R u8 we2 F b2 (encIno (nums8 nm) z ls) := Hold.row H5 3 rfl
    refine r (ln Tryd.underlying22 rfl (R12)) (r (bi rfl rfl rfl) (re ?_))
    refine jn (α := Unit) (fun _ ρ w' => ρ 0 = v ∧ ρ 2 = .bool false ∧ ρ 4 = b ∧ Hold w [] w' []) ?_ ?_
    · refine cp rfl (fun h0 => ?_) (fun h0 => ?_)
      · obtain ⟨_, R13⟩ : ∃ F, Kd.R u8 we2 F b (encIno (nums8 nm) z ls) := Hold.row H5 2 rfl
        refine sq (rg (r (mv z4) (r (ln Tryd.underlying22 rfl (R13)) (r (bi rfl rfl rfl) (re ?_)))))
        refine cf ((rfl : _ = Value.bool (!decide (((encIno (nums8 nm) z ls).length : Int) = 0))).trans (congrArg Value.bool (show (!decide (((encIno (nums8 nm) z ls).length : Int) = 0)) = false from (by rw [decide_eq_true h0]; rfl)))) ?_
        refine sk ?_
        have H6 : Hold w [] we2 [] := (show Hold w [] we2 ([] ++ [rR i64 2 u ls, rB g3 25 ([.string nm, .int .i64 z, u]), rR u8 eb b (encIno (nums8 nm) z ls), rR u8 eb2 b2 (encIno (nums8 nm) z ls)]) from Hold.re H5 [0, 1, 2, 3] (by kernel_rfl) (by rfl)).drop
        clear H5
        exact je () ⟨z0, z2, z4, H6⟩
      · have hno : inoOk (nums8 nm) z ls := Decidable.byContradiction fun hn => h0 (by rw [encIno, if_neg hn]; rfl)
        have e0 : encIno (nums8 nm) z ls = encI (nums8 nm) z ls := if_pos hno
        have hD := encI_decI hno
        obtain ⟨e1, e2, e3⟩ := encI_dec hno
        have l1 := encI_len hno
        have ok1 : ok8 (encI (nums8 nm) z ls) := by rw [← e0]; exact ok8_encIno (nums8_ok _)
        have H6 : Hold w [] we2 [rR i64 2 u ls, rB g3 25 ([.string nm, .int .i64 z, u]), rR u8 eb b (encI (nums8 nm) z ls), rR u8 eb2 b2 (encI (nums8 nm) z ls)] := (by rw [e0] at H5; exact H5)
        clear H5
        obtain ⟨_, R14⟩ : ∃ F, Kd.R u8 we2 F b (encI (nums8 nm) z ls) := Hold.row H6 2 rfl
        refine sq (rg (r (mv z4) (cl go9 (impl_DecodeInode R14 (by omega) ok1) (ac rfl an) ?_)))
        rintro r wz ⟨u2, rfl, Hz⟩
        rw [decide_eq_true hD, if_pos hD, if_pos hD, e1, e2, mkS_nums8]
        rw [if_pos hD, e3] at Hz
        have H7 : Hold w [] wz [rR i64 2 u ls, rB g3 25 ([.string nm, .int .i64 z, u]), rR u8 eb b (encI (nums8 nm) z ls), rR u8 eb2 b2 (encI (nums8 nm) z ls), rR i64 2 u2 ls] := Hold.news H6 Hz
        clear H6
        clear Hz
        refine ef (xal ti27) ?_
        rintro _ w15 ⟨g5, e15, rfl, -, b15, c15⟩
        have H8 : Hold w [] w15 [rR i64 2 u ls, rB g3 25 ([.string nm, .int .i64 z, u]), rR u8 eb b (encI (nums8 nm) z ls), rR u8 eb2 b2 (encI (nums8 nm) z ls), rR i64 2 u2 ls, rB g5 27 ([.bool false, .string ⟨#[]⟩, .int .i64 0, .slice none 0 0])] := Hold.newB H7 e15 b15 c15
        clear H7
        clear e15 b15 c15
        have b16 : B w15 g5 27 ([.bool false, .string ⟨#[]⟩, .int .i64 0, .slice none 0 0]) := Hold.blk H8 5 rfl
        obtain ⟨_, R18⟩ : ∃ F, Kd.R i64 w15 F u2 ls := Hold.row H8 4 rfl
        refine ef0 (xst (vs := [.bool true, .string nm, .int .i64 z, u2]) ti27 rfl rfl rfl b16 rfl (Nat.le_of_ble_eq_true rfl) (oc rfl (oc rfl (oc rfl (oc (R18).oneCell on))))) ?_
        rintro w17 ⟨-, b17, c17⟩
        have H9 : Hold w [] w17 [rR i64 2 u ls, rB g3 25 ([.string nm, .int .i64 z, u]), rR u8 eb b (encI (nums8 nm) z ls), rR u8 eb2 b2 (encI (nums8 nm) z ls), rR i64 2 u2 ls, rB g5 27 ([.bool true, .string nm, .int .i64 z, u2])] := Hold.setB H8 5 rfl b17 c17 rfl
        clear H8
        clear b17 c17
        have b19 : B w17 g5 27 ([.bool true, .string nm, .int .i64 z, u2]) := Hold.blk H9 5 rfl
        have b20 : B w17 g3 25 ([.string nm, .int .i64 z, u]) := Hold.blk H9 1 rfl
        refine re (sq (sq (rg (r (fa Tryd.underlying27 rfl ti4 rfl rfl) (r (ldb Tryd.underlying4 rfl rfl b19 rfl) (r (nt rfl) (r (mv rfl) (gy rfl rfl rfl (r (fa Tryd.underlying27 rfl ti25 rfl rfl) (gy rfl rfl rfl (r (fa Tryd.underlying25 rfl ti9 rfl rfl) (gy rfl rfl rfl (r (ldb Tryd.underlying9 rfl rfl b19 rfl) (gy rfl rfl rfl (r (fa Tryd.underlying25 rfl ti9 rfl z3) (gy rfl rfl rfl (r (ldb Tryd.underlying9 rfl rfl b20 rfl) (gy rfl rfl rfl (r (sne rfl rfl) (r (pk rfl rfl) (r (mv rfl) ?_)))))))))))))))))))))
        refine spf 39 rfl (show (!decide (nm = nm)) = false from (by rw [decide_eq_true rfl]; rfl)) ?_
        refine gy rfl rfl rfl (r (fa Tryd.underlying27 rfl ti25 rfl rfl) (gy rfl rfl rfl (r (fa Tryd.underlying25 rfl ti2 rfl rfl) (gy rfl rfl rfl (r (ldb Tryd.underlying2 rfl rfl b19 rfl) (gy rfl rfl rfl (r (fa Tryd.underlying25 rfl ti2 rfl z3) (gy rfl rfl rfl (r (ldb Tryd.underlying2 rfl rfl b20 rfl) (gy rfl rfl rfl (r (bi rfl rfl rfl) (r (pk rfl rfl) (r (mv rfl) ?_)))))))))))))
        refine spf 47 rfl (show (!decide (z = z)) = false from (by rw [decide_eq_true rfl]; rfl)) ?_
        obtain ⟨_, R21⟩ : ∃ F, Kd.R i64 w17 F u2 ls := Hold.row H9 4 rfl
        obtain ⟨_, R22⟩ : ∃ F, Kd.R i64 w17 F u ls := Hold.row H9 0 rfl
        refine gy rfl rfl rfl (r (fa Tryd.underlying27 rfl ti25 rfl rfl) (gy rfl rfl rfl (r (fa Tryd.underlying25 rfl ti23 rfl rfl) (gy rfl rfl rfl (r (ldb Tryd.underlying23 rfl rfl b19 rfl) (gy rfl rfl rfl (r (ln Tryd.underlying23 rfl (R21)) (gy rfl rfl rfl (r (fa Tryd.underlying25 rfl ti23 rfl z3) (gy rfl rfl rfl (r (ldb Tryd.underlying23 rfl rfl b20 rfl) (gy rfl rfl rfl (r (ln Tryd.underlying23 rfl (R22)) (gy rfl rfl rfl (r (bi rfl rfl rfl) (r (pk rfl rfl) (re ?_)))))))))))))))))
        refine cf ((rfl : _ = Value.bool (!decide ((ls.length : Int) = (ls.length : Int)))).trans (congrArg Value.bool (show (!decide ((ls.length : Int) = (ls.length : Int))) = false from (by rw [decide_eq_true rfl]; rfl)))) ?_
        refine sk (sq ?_)
        refine gen (fun ρ => ρ 0 = v ∧ ρ 2 = .bool false ∧ ρ 3 = .pointer (some ⟨g3, 0, none⟩) ∧ ρ 4 = b ∧ ρ 5 = .pointer (some ⟨g5, 0, none⟩) ∧ True) ⟨z0, z2, z3, z4, rfl, trivial⟩ ?_
        rintro ρ ⟨z0, z2, z3, z4, z5, -⟩
        refine rg (r (sa rfl) (re (bl ?_)))
        refine lp (α := Nat) (fun i ρ w' => ρ 0 = v ∧ ρ 2 = .bool false ∧ ρ 3 = .pointer (some ⟨g3, 0, none⟩) ∧ ρ 4 = b ∧ ρ 5 = .pointer (some ⟨g5, 0, none⟩) ∧ ρ 6 = .int .i64 (i : Int) ∧ Hold w [] w' [rR i64 2 u ls, rB g3 25 ([.string nm, .int .i64 z, u]), rR u8 eb b (encI (nums8 nm) z ls), rR u8 eb2 b2 (encI (nums8 nm) z ls), rR i64 2 u2 ls, rB g5 27 ([.bool true, .string nm, .int .i64 z, u2])] ∧ i ≤ ls.length) (fun i => ls.length - i) 0 ?_ ?_
        · exact ⟨z0, z2, z3, z4, z5, rfl, H9, by omega⟩
        clear H9
        rintro i ρ w510 ⟨y0, y2, y3, y4, y5, y6, H10, hi⟩
        have b23 : B w510 g3 25 ([.string nm, .int .i64 z, u]) := Hold.blk H10 1 rfl
        obtain ⟨_, R24⟩ : ∃ F, Kd.R i64 w510 F u ls := Hold.row H10 0 rfl
        refine sq (sq (rg (r (mv y6) (r (fa Tryd.underlying25 rfl ti23 rfl y3) (r (ldb Tryd.underlying23 rfl rfl b23 rfl) (r (ln Tryd.underlying23 rfl (R24)) (r (bi rfl rfl rfl) (re ?_))))))))
        refine cp rfl (fun hlt => ?_) (fun hlt => ?_)
        · have hi' : i < ls.length := by omega
          have b25 : B w510 g5 27 ([.bool true, .string nm, .int .i64 z, u2]) := Hold.blk H10 5 rfl
          obtain ⟨_, R26⟩ : ∃ F, Kd.R i64 w510 F u2 ls := Hold.row H10 4 rfl
          refine sk (sq (bl (sq (rd mixed (by kernel_rfl) (q (fa Tryd.underlying27 rfl ti25 rfl y5) (q (fa Tryd.underlying25 rfl ti23 rfl rfl) (q (ldb Tryd.underlying23 rfl rfl b25 rfl) (q (mv y6) ?_))))))))
          obtain ⟨c68_27, ad68_27, k68_27, e68_27, p68_27⟩ := Kd.R.place R26 i (by omega)
          refine q (ix (j := i) Tryd.underlying23 ti2 e68_27 rfl (by omega)) (q (ld Tryd.underlying2 rfl rfl p68_27.cell) (q (fa Tryd.underlying25 rfl ti23 rfl y3) (q (ldb Tryd.underlying23 rfl rfl b23 rfl) (q (mv y6) ?_))))
          obtain ⟨c73_28, ad73_28, k73_28, e73_28, p73_28⟩ := Kd.R.place R24 i (by omega)
          refine q (ix (j := i) Tryd.underlying23 ti2 e73_28 rfl (by omega)) (q (ld Tryd.underlying2 rfl rfl p73_28.cell) (q (bi rfl rfl rfl) (me ?_)))
          intro w1 c1
          have H11 : Hold w [] w1 [rR i64 2 u ls, rB g3 25 ([.string nm, .int .i64 z, u]), rR u8 eb b (encI (nums8 nm) z ls), rR u8 eb2 b2 (encI (nums8 nm) z ls), rR i64 2 u2 ls, rB g5 27 ([.bool true, .string nm, .int .i64 z, u2])] := Hold.t H10 c1
          clear H10
          refine cf ((rfl : _ = Value.bool (!decide ((ls[i]) = (ls[i])))).trans (congrArg Value.bool (show (!decide ((ls[i]) = (ls[i]))) = false from (by rw [decide_eq_true rfl]; rfl)))) ?_
          refine sk (be ?_)
          refine gen (fun ρ => ρ 0 = v ∧ ρ 2 = .bool false ∧ ρ 3 = .pointer (some ⟨g3, 0, none⟩) ∧ ρ 4 = b ∧ ρ 5 = .pointer (some ⟨g5, 0, none⟩) ∧ ρ 6 = .int .i64 (i : Int) ∧ True) ⟨y0, y2, y3, y4, y5, y6, trivial⟩ ?_
          rintro ρ ⟨z0, z2, z3, z4, z5, z6, -⟩
          refine rg (r (mv z6) (r (ad (a := (i : Int)) (b := 1) ((i : Int) + 1) rfl rfl (by omega)) (r (sa rfl) (re ?_))))
          exact ag (i + 1) ⟨z0, z2, z3, z4, z5, rfl, H11, by omega⟩ (by first | omega | (dsimp only; omega))
        · refine ex rfl ?_
          have H11 : Hold w [] w510 [] := (show Hold w [] w510 ([] ++ [rR i64 2 u ls, rB g3 25 ([.string nm, .int .i64 z, u]), rR u8 eb b (encI (nums8 nm) z ls), rR u8 eb2 b2 (encI (nums8 nm) z ls), rR i64 2 u2 ls, rB g5 27 ([.bool true, .string nm, .int .i64 z, u2])]) from Hold.re H10 [0, 1, 2, 3, 4, 5] (by kernel_rfl) (by rfl)).drop
          clear H10
          exact je () ⟨y0, y2, y4, H11⟩
    · rintro _ ρ w565 ⟨y0, y2, y4, H65⟩
      clear H5
      refine sq (rg (r (mv y0) (cl go18 (DrawEncodeTable (hx.t (Hold.ch H65)) lx ok) (ac rfl an) ?_)))
      rintro o wd ⟨t, ht, Hd⟩
      have H66 : Hold w [] wd [rR kE 44 o t] := Hold.news H65 Hd
      clear H65
      clear Hd
      obtain ⟨_, R315⟩ : ∃ F, Kd.R kE wd F o t := Hold.row H66 0 rfl
      refine r (sa rfl) (re (sq (rg (r (mv rfl) (cl go19 (impl_EncodeTable_H R315 (by omega)) (ac rfl an) ?_)))))
      rintro b we He
      have H67 : Hold w [] we [rR kE 44 o t, rR u8 5 b (encTable t)] := Hold.news H66 He
      clear H66
      clear He
      obtain ⟨_, R317⟩ : ∃ F, Kd.R kE we F o t := Hold.row H67 0 rfl
      refine r (sa rfl) (re (sq (sq (rg (r (mv rfl) (cl go20 (spec_EncodeTable_H R317 (by omega)) (ac rfl an) ?_))))))
      rintro b2 we2 He2
      have H68 : Hold w [] we2 [rR kE 44 o t, rR u8 5 b (encTable t), rR u8 5 b2 (encTable t)] := Hold.news H67 He2
      clear H67
      clear He2
      obtain ⟨_, R318⟩ : ∃ F, Kd.R u8 we2 F b2 (encTable t) := Hold.row H68 2 rfl
      obtain ⟨_, R319⟩ : ∃ F, Kd.R u8 we2 F b (encTable t) := Hold.row H68 1 rfl
      refine r (ln Tryd.underlying22 rfl (R318)) (r (mv rfl) (r (ln Tryd.underlying22 rfl (R319)) (r (bi rfl rfl rfl) (re ?_))))
      refine cf ((rfl : _ = Value.bool (!decide (((encTable t).length : Int) = ((encTable t).length : Int)))).trans (congrArg Value.bool (show (!decide (((encTable t).length : Int) = ((encTable t).length : Int))) = false from (by rw [decide_eq_true rfl]; rfl)))) ?_
      refine sk (sq (sq ?_))
      refine gen (fun ρ => ρ 0 = v ∧ ρ 2 = .bool false ∧ ρ 4 = b ∧ ρ 7 = o ∧ True) ⟨y0, y2, rfl, rfl, trivial⟩ ?_
      rintro ρ ⟨z0, z2, z4, z7, -⟩
      refine rg (r (mv z4) (r (ln Tryd.underlying22 rfl (R319)) (r (bi rfl rfl rfl) (re ?_))))
      refine jn (α := Unit) (fun _ ρ w' => ρ 0 = v ∧ ρ 2 = .bool false ∧ ρ 4 = b ∧ Hold w [] w' []) ?_ ?_
      · refine cp rfl (fun h0 => ?_) (fun h0 => ?_)
        · have hT := encT_back (xs := t) (by omega)
          have lT := encT_len (xs := t)
          refine sq (rg (r (mv z4) (cl go21 (impl_DecodeTable R319 (by omega) ok8_encT) (ac rfl an) ?_)))
          rintro r wz ⟨u2, rfl, Hz⟩
          rw [hT] at Hz ⊢
          have H69 : Hold w [] wz [rR kE 44 o t, rR u8 5 b (encTable t), rR u8 5 b2 (encTable t), rR kE 44 u2 t] := Hold.news H68 Hz
          clear H68
          clear Hz
          refine ef (xal ti41) ?_
          rintro _ w321 ⟨g8, e321, rfl, -, b321, c321⟩
          have H70 : Hold w [] w321 [rR kE 44 o t, rR u8 5 b (encTable t), rR u8 5 b2 (encTable t), rR kE 44 u2 t, rB g8 41 ([.bool false, .slice none 0 0])] := Hold.newB H69 e321 b321 c321
          clear H69
          clear e321 b321 c321
          have b322 : B w321 g8 41 ([.bool false, .slice none 0 0]) := Hold.blk H70 4 rfl
          obtain ⟨_, R324⟩ : ∃ F, Kd.R kE w321 F u2 t := Hold.row H70 3 rfl
          refine ef0 (xst (vs := [.bool true, u2]) ti41 rfl rfl rfl b322 rfl (Nat.le_of_ble_eq_true rfl) (oc rfl (oc (R324).oneCell on))) ?_
          rintro w323 ⟨-, b323, c323⟩
          have H71 : Hold w [] w323 [rR kE 44 o t, rR u8 5 b (encTable t), rR u8 5 b2 (encTable t), rR kE 44 u2 t, rB g8 41 ([.bool true, u2])] := Hold.setB H70 4 rfl b323 c323 rfl
          clear H70
          clear b323 c323
          have b325 : B w323 g8 41 ([.bool true, u2]) := Hold.blk H71 4 rfl
          obtain ⟨_, R326⟩ : ∃ F, Kd.R kE w323 F u2 t := Hold.row H71 3 rfl
          obtain ⟨_, R327⟩ : ∃ F, Kd.R kE w323 F o t := Hold.row H71 0 rfl
          refine re (sq (sq (rg (r (fa Tryd.underlying41 rfl ti4 rfl rfl) (r (ldb Tryd.underlying4 rfl rfl b325 rfl) (r (nt rfl) (r (mv rfl) (gy rfl rfl rfl (r (fa Tryd.underlying41 rfl ti37 rfl rfl) (gy rfl rfl rfl (r (ldb Tryd.underlying37 rfl rfl b325 rfl) (gy rfl rfl rfl (r (ln Tryd.underlying37 rfl (R326)) (gy rfl rfl rfl (r (mv z7) (gy rfl rfl rfl (r (ln Tryd.underlying37 rfl (R327)) (gy rfl rfl rfl (r (bi rfl rfl rfl) (r (pk rfl rfl) (re ?_)))))))))))))))))))))
          refine cf ((rfl : _ = Value.bool (!decide ((t.length : Int) = (t.length : Int)))).trans (congrArg Value.bool (show (!decide ((t.length : Int) = (t.length : Int))) = false from (by rw [decide_eq_true rfl]; rfl)))) ?_
          refine sk (sq ?_)
          refine gen (fun ρ => ρ 0 = v ∧ ρ 2 = .bool false ∧ ρ 4 = b ∧ ρ 7 = o ∧ ρ 8 = .pointer (some ⟨g8, 0, none⟩) ∧ True) ⟨z0, z2, z4, z7, rfl, trivial⟩ ?_
          rintro ρ ⟨z0, z2, z4, z7, z8, -⟩
          refine rg (r (sa rfl) (re (bl ?_)))
          refine lp (α := Nat) (fun i ρ w' => ρ 0 = v ∧ ρ 2 = .bool false ∧ ρ 4 = b ∧ ρ 7 = o ∧ ρ 8 = .pointer (some ⟨g8, 0, none⟩) ∧ ρ 9 = .int .i64 (i : Int) ∧ Hold w [] w' [rR kE 44 o t, rR u8 5 b (encTable t), rR u8 5 b2 (encTable t), rR kE 44 u2 t, rB g8 41 ([.bool true, u2])] ∧ i ≤ t.length) (fun i => t.length - i) 0 ?_ ?_
          · exact ⟨z0, z2, z4, z7, z8, rfl, H71, by omega⟩
          clear H71
          rintro i ρ w572 ⟨y0, y2, y4, y7, y8, y9, H72, hi⟩
          obtain ⟨_, R328⟩ : ∃ F, Kd.R kE w572 F o t := Hold.row H72 0 rfl
          refine sq (sq (rg (r (mv y9) (r (mv y7) (r (ln Tryd.underlying37 rfl (R328)) (r (bi rfl rfl rfl) (re ?_)))))))
          refine cp rfl (fun hlt => ?_) (fun hlt => ?_)
          · have hi' : i < t.length := by omega
            have b329 : B w572 g8 41 ([.bool true, u2]) := Hold.blk H72 4 rfl
            obtain ⟨_, R330⟩ : ∃ F, Kd.R kE w572 F u2 t := Hold.row H72 3 rfl
            refine sk (sq (bl (sq (rd mixed (by kernel_rfl) (q (fa Tryd.underlying41 rfl ti37 rfl y8) (q (ldb Tryd.underlying37 rfl rfl b329 rfl) (q (mv y9) ?_)))))))
            obtain ⟨c111_331, ad111_331, k111_331, e111_331, p111_331⟩ := Kd.R.place R330 i (by omega)
            have q111_331 := en_at p111_331
            refine q (ix (j := i) Tryd.underlying37 ti44 e111_331 rfl (by omega)) (q (la [.int .i64 ((t[i]).1), .bool ((t[i]).2)] Tryd.underlying44 rfl ti44 rfl rfl (fun m u h => (q111_331 m u h))) (q (mv y7) (q (mv y9) ?_)))
            obtain ⟨c115_332, ad115_332, k115_332, e115_332, p115_332⟩ := Kd.R.place R328 i (by omega)
            have q115_332 := en_at p115_332
            refine q (ix (j := i) Tryd.underlying37 ti44 e115_332 rfl (by omega)) (q (la [.int .i64 ((t[i]).1), .bool ((t[i]).2)] Tryd.underlying44 rfl ti44 rfl rfl (fun m u h => (q115_332 m u h))) (q (sqn (by kernel_rfl) (fun _ => eqEnt) rfl rfl) (me ?_)))
            intro w1 c1
            have H73 : Hold w [] w1 [rR kE 44 o t, rR u8 5 b (encTable t), rR u8 5 b2 (encTable t), rR kE 44 u2 t, rB g8 41 ([.bool true, u2])] := Hold.t H72 c1
            clear H72
            refine cf ((rfl : _ = Value.bool (!decide ((t[i].1, t[i].2) = (t[i].1, t[i].2)))).trans (congrArg Value.bool (show (!decide ((t[i].1, t[i].2) = (t[i].1, t[i].2))) = false from (by rw [decide_eq_true rfl]; rfl)))) ?_
            refine sk (be ?_)
            refine gen (fun ρ => ρ 0 = v ∧ ρ 2 = .bool false ∧ ρ 4 = b ∧ ρ 7 = o ∧ ρ 8 = .pointer (some ⟨g8, 0, none⟩) ∧ ρ 9 = .int .i64 (i : Int) ∧ True) ⟨y0, y2, y4, y7, y8, y9, trivial⟩ ?_
            rintro ρ ⟨z0, z2, z4, z7, z8, z9, -⟩
            refine rg (r (mv z9) (r (ad (a := (i : Int)) (b := 1) ((i : Int) + 1) rfl rfl (by omega)) (r (sa rfl) (re ?_))))
            exact ag (i + 1) ⟨z0, z2, z4, z7, z8, rfl, H73, by omega⟩ (by first | omega | (dsimp only; omega))
          · refine ex rfl ?_
            have H73 : Hold w [] w572 [] := (show Hold w [] w572 ([] ++ [rR kE 44 o t, rR u8 5 b (encTable t), rR u8 5 b2 (encTable t), rR kE 44 u2 t, rB g8 41 ([.bool true, u2])]) from Hold.re H72 [0, 1, 2, 3, 4] (by kernel_rfl) (by rfl)).drop
            clear H72
            exact je () ⟨y0, y2, y4, H73⟩
        · refine sk ?_
          have H69 : Hold w [] we2 [] := (show Hold w [] we2 ([] ++ [rR kE 44 o t, rR u8 5 b (encTable t), rR u8 5 b2 (encTable t)]) from Hold.re H68 [0, 1, 2] (by kernel_rfl) (by rfl)).drop
          clear H68
          exact je () ⟨z0, z2, z4, H69⟩
      · rintro _ ρ w628 ⟨y0, y2, y4, H128⟩
        clear H68
        refine sq (rg (r (mv y0) (cl go22 (DrawEncodeHeader (hx.t (Hold.ch H128)) lx ok) (ac rfl an) ?_)))
        rintro r wd ⟨q, s, e, rfl, cd⟩
        have H129 : Hold w [] wd [] := Hold.t H128 cd
        clear H128
        clear cd
        refine ef (xal ti46) ?_
        rintro _ w621 ⟨g10, e621, rfl, -, b621, c621⟩
        have H130 : Hold w [] w621 [rB g10 46 ([.int .i64 0, .int .i64 0, .int .i64 0])] := Hold.newB H129 e621 b621 c621
        clear H129
        clear e621 b621 c621
        have b622 : B w621 g10 46 ([.int .i64 0, .int .i64 0, .int .i64 0]) := Hold.blk H130 0 rfl
        refine ef0 (xst (vs := [.int .i64 q, .int .i64 s, .int .i64 e]) ti46 rfl rfl rfl b622 rfl (Nat.le_of_ble_eq_true rfl) (one_all rfl)) ?_
        rintro w623 ⟨-, b623, c623⟩
        have H131 : Hold w [] w623 [rB g10 46 ([.int .i64 q, .int .i64 s, .int .i64 e])] := Hold.setB H130 0 rfl b623 c623 rfl
        clear H130
        clear b623 c623
        have b624 : B w623 g10 46 ([.int .i64 q, .int .i64 s, .int .i64 e]) := Hold.blk H131 0 rfl
        refine re (sq (rg (r (lab [.int .i64 q, .int .i64 s, .int .i64 e] Tryd.underlying46 rfl ti46 rfl b624 rfl rfl) (cl go23 (impl_EncHdr_H) (ac rfl an) ?_))))
        rintro b we ⟨eb, He⟩
        have H132 : Hold w [] we [rB g10 46 ([.int .i64 q, .int .i64 s, .int .i64 e]), rR u8 eb b (encHeader q s e)] := Hold.news H131 He
        clear H131
        clear He
        have b626 : B we g10 46 ([.int .i64 q, .int .i64 s, .int .i64 e]) := Hold.blk H132 0 rfl
        refine r (sa rfl) (re (sq (sq (rg (r (lab [.int .i64 q, .int .i64 s, .int .i64 e] Tryd.underlying46 rfl ti46 rfl b626 rfl rfl) (cl go24 (spec_EncHdr_H) (ac rfl an) ?_))))))
        rintro b2 we2 He2
        have H133 : Hold w [] we2 [rB g10 46 ([.int .i64 q, .int .i64 s, .int .i64 e]), rR u8 eb b (encHeader q s e), rR u8 5 b2 (encHeader q s e)] := Hold.news H132 He2
        clear H132
        clear He2
        obtain ⟨_, R628⟩ : ∃ F, Kd.R u8 we2 F b2 (encHeader q s e) := Hold.row H133 2 rfl
        refine r (ln Tryd.underlying22 rfl (R628)) (r (bi rfl rfl rfl) (re ?_))
        refine cp rfl (fun h0 => ?_) (fun h0 => ?_)
        · refine sq ?_
          refine gen (fun ρ => ρ 2 = .bool false ∧ ρ 4 = b ∧ ρ 10 = .pointer (some ⟨g10, 0, none⟩) ∧ True) ⟨y2, rfl, rfl, trivial⟩ ?_
          rintro ρ ⟨z2, z4, z10, -⟩
          obtain ⟨_, R629⟩ : ∃ F, Kd.R u8 we2 F b (encHeader q s e) := Hold.row H133 1 rfl
          refine rg (r (mv z4) (r (ln Tryd.underlying22 rfl (R629)) (r (bi rfl rfl rfl) (r (sa rfl) (re (rt ?_))))))
          exact fin1 (v := .bool (decide (((encHeader q s e).length : Int) = 0))) Tryd.results4 rfl ⟨congrArg Value.bool (decide_eq_true h0), Hold.ch H133⟩
        · have hh : hdr q s e := Decidable.byContradiction fun hn => h0 (by simp [encHeader, hn])
          have e0 : encHeader q s e = encH q s e := if_pos hh
          have l1 := encH_len q s e
          have ok1 : ok8 (encH q s e) := by rw [← e0]; exact ok8_encHeader _ _ _
          obtain ⟨e1, e2, e3⟩ := encH_hq hh
          have hD := encH_dec hh
          have H134 : Hold w [] we2 [rB g10 46 ([.int .i64 q, .int .i64 s, .int .i64 e]), rR u8 eb b (encH q s e), rR u8 5 b2 (encH q s e)] := (by rw [e0] at H133; exact H133)
          clear H133
          refine sk (sq ?_)
          refine gen (fun ρ => ρ 2 = .bool false ∧ ρ 4 = b ∧ ρ 10 = .pointer (some ⟨g10, 0, none⟩) ∧ True) ⟨y2, rfl, rfl, trivial⟩ ?_
          rintro ρ ⟨z2, z4, z10, -⟩
          obtain ⟨_, R630⟩ : ∃ F, Kd.R u8 we2 F b (encH q s e) := Hold.row H134 1 rfl
          refine rg (r (mv z4) (cl go25 (impl_DecodeHeader R630 (by omega) ok1) (ac rfl an) ?_))
          rintro r wz ⟨rfl, cz⟩
          rw [decide_eq_true hD, dV_yes hD, dV_yes hD, dV_yes hD, e1, e2, e3]
          have H135 : Hold w [] wz [rB g10 46 ([.int .i64 q, .int .i64 s, .int .i64 e]), rR u8 eb b (encH q s e), rR u8 5 b2 (encH q s e)] := Hold.t H134 cz
          clear H134
          clear cz
          refine ef (xal ti50) ?_
          rintro _ w631 ⟨g11, e631, rfl, -, b631, c631⟩
          have H136 : Hold w [] w631 [rB g10 46 ([.int .i64 q, .int .i64 s, .int .i64 e]), rR u8 eb b (encH q s e), rR u8 5 b2 (encH q s e), rB g11 50 ([.bool false, .int .i64 0, .int .i64 0, .int .i64 0])] := Hold.newB H135 e631 b631 c631
          clear H135
          clear e631 b631 c631
          have b632 : B w631 g11 50 ([.bool false, .int .i64 0, .int .i64 0, .int .i64 0]) := Hold.blk H136 3 rfl
          refine ef0 (xst (vs := [.bool true, .int .i64 q, .int .i64 s, .int .i64 e]) ti50 rfl rfl rfl b632 rfl (Nat.le_of_ble_eq_true rfl) (one_all rfl)) ?_
          rintro w633 ⟨-, b633, c633⟩
          have H137 : Hold w [] w633 [rB g10 46 ([.int .i64 q, .int .i64 s, .int .i64 e]), rR u8 eb b (encH q s e), rR u8 5 b2 (encH q s e), rB g11 50 ([.bool true, .int .i64 q, .int .i64 s, .int .i64 e])] := Hold.setB H136 3 rfl b633 c633 rfl
          clear H136
          clear b633 c633
          obtain ⟨_, R634⟩ : ∃ F, Kd.R u8 w633 F b (encH q s e) := Hold.row H137 1 rfl
          refine re (sq (rg (r (mv z4) (r (ln Tryd.underlying22 rfl (R634)) (r (bi rfl rfl rfl) (r (mv rfl) ?_))))))
          refine spf 134 rfl (show (decide (((encH q s e).length : Int) = 64)) = true from (decide_eq_true (by omega))) ?_
          have b635 : B w633 g11 50 ([.bool true, .int .i64 q, .int .i64 s, .int .i64 e]) := Hold.blk H137 3 rfl
          have b636 : B w633 g10 46 ([.int .i64 q, .int .i64 s, .int .i64 e]) := Hold.blk H137 0 rfl
          refine gy rfl rfl rfl (r (fa Tryd.underlying50 rfl ti4 rfl rfl) (gy rfl rfl rfl (r (ldb Tryd.underlying4 rfl rfl b635 rfl) (r (pk rfl rfl) (r (mv rfl) (gy rfl rfl rfl (r (fa Tryd.underlying50 rfl ti46 rfl rfl) (gy rfl rfl rfl (r (lab [.int .i64 q, .int .i64 s, .int .i64 e] Tryd.underlying46 rfl ti46 rfl b635 rfl rfl) (gy rfl rfl rfl (r (lab [.int .i64 q, .int .i64 s, .int .i64 e] Tryd.underlying46 rfl ti46 z10 b636 rfl rfl) (gy rfl rfl rfl (r (sqe (by kernel_rfl) (fun _ => eqHdr2) rfl rfl) (r (pk rfl rfl) (r (sa rfl) (re (rt ?_)))))))))))))))))
          exact fin1 (v := .bool (decide ((q, s, e) = (q, s, e)))) Tryd.results4 rfl ⟨congrArg Value.bool (decide_eq_true rfl), Hold.ch H137⟩
end Go.Proofs.YtgpcanjmgdmdhaaDoor
