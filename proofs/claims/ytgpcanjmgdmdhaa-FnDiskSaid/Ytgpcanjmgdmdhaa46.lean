/-
  CONTRACTS 46: drawn disks. No condition.
-/
import Derived.Test.Ytgpcanjmgdmdhaa43
import Derived.Test.Ytgpcanjmgdmdhaa30
namespace Go.Proofs.Ytgpcanjmgdmdhaa
open Go Go.Eng
set_option maxRecDepth 100000
set_option maxHeartbeats 4000000
set_option linter.unusedVariables false
set_option linter.unusedSimpArgs false
theorem NewD_H {w w' : World} {r : Value} {D : Dsk} (h : NewD w w' r D) (c : Ch [] w w') : ∃ a b, r = .agg #[a, b] ∧ Hold w [] w' [rR u8 5 a D.1, rR kW 112 b D.2] := by
  obtain ⟨a, b, F, G, rfl, W1, W2, n1, n2, d, f1, f2⟩ := h
  exact ⟨a, b, rfl, F ++ G, ⟨F, G, rfl, W1, G, [], by simp, W2, rfl⟩, Turn.new (nodup_app.2 ⟨n1, n2, d⟩) (fun k hk => (List.mem_append.1 hk).elim (f1 k) (f2 k)) c⟩
theorem spec_NewDisk_H {w : World} {b : Int} : Ret Try.prog 39 #[.int .i64 b] w (fun r w' => ∃ x y, r = .agg #[x, y] ∧ Hold w [] w' [rR u8 5 x (zer b), rR kW 112 y ([] : List Wr)]) :=
  Calls.mono spec_NewDisk fun _ _ h => h.imp fun _ h => ⟨h.1, NewD_H h.2.1 h.2.2⟩
def fill (s : Src) : List Int × Src := ((List.replicate 64 (1 + (nx s 255).1)).set (nx (nx s 255).2 64).1.toNat (nx (nx (nx s 255).2 64).2 256).1, (nx (nx (nx s 255).2 64).2 256).2)
theorem fill_len (s : Src) : (fill s).1.length = 64 := by simp [fill]
theorem fill_ok {s : Src} (h : SrcOk s) : SrcOk (fill s).2 := nx_ok (nx_ok (nx_ok h))
theorem fill_ok8 {s : Src} (h : SrcOk s) : ok8 (fill s).1 := by
  have h1 := nx_0 (n := 255) h
  have h2 := nx_1 (s := s) (n := 255) (by omega)
  have h3 := nx_0 (n := 256) (nx_ok (n := 64) (nx_ok (n := 255) h))
  have h4 := nx_1 (s := (nx (nx s 255).2 64).2) (n := 256) (by omega)
  intro x hx
  rcases List.mem_or_eq_of_mem_set hx with hx | rfl
  · have := List.eq_of_mem_replicate hx; omega
  · omega
def gl1 (D : Dsk) (s : Src) : Nat → Dsk × Src
  | 0 => (D, s)
  | k + 1 => if 0 < (nx (gl1 D s k).2 3).1 then (dwD (gl1 D s k).1.1 (gl1 D s k).1.2 k (fill (nx (gl1 D s k).2 3).2).1, (fill (nx (gl1 D s k).2 3).2).2) else ((gl1 D s k).1, (nx (gl1 D s k).2 3).2)
def gl2 (n : Int) (D : Dsk) (s : Src) : Nat → Dsk × Src
  | 0 => (D, s)
  | k + 1 => (dwD (gl2 n D s k).1.1 (gl2 n D s k).1.2 (nx (gl2 n D s k).2 n).1 (fill (nx (gl2 n D s k).2 n).2).1, (fill (nx (gl2 n D s k).2 n).2).2)
theorem gl1_ok {D : Dsk} {s : Src} (h : SrcOk s) (k : Nat) : SrcOk (gl1 D s k).2 := by
  induction k with
  | zero => exact h
  | succ k ih => simp only [gl1]; split; exact fill_ok (nx_ok ih); exact nx_ok ih
theorem gl2_ok {n : Int} {D : Dsk} {s : Src} (h : SrcOk s) (k : Nat) : SrcOk (gl2 n D s k).2 := by
  induction k with
  | zero => exact h
  | succ k ih => exact fill_ok (nx_ok ih)
theorem gl1_sm {D : Dsk} {s : Src} (h : Sm D) (k : Nat) : Sm (gl1 D s k).1 := by
  induction k with
  | zero => exact h
  | succ k ih => simp only [gl1]; split; exact dwD_sm; exact ih
theorem gl2_sm {n : Int} {D : Dsk} {s : Src} (h : Sm D) (k : Nat) : Sm (gl2 n D s k).1 := by
  cases k with
  | zero => exact h
  | succ k => exact dwD_sm
theorem zer_sm {n : Int} : Sm (zer n, []) := Sm.of (zer_len n) (by simp) (by simp)
theorem zer_blks {n : Int} (h : 1 ≤ n ∧ n ≤ 1200) : blks (zer n) = n := by unfold blks zer; rw [if_pos h]; simp; omega
/-- A good disk that is drawn. -/
def gdN (s : Src) : Int := 1 + (nx s 5).1
def gdA (s : Src) (k : Nat) : Dsk × Src := gl1 (zer (gdN s), []) (nx s 5).2 k
def gdM (s : Src) : Dsk × Src := gdA s (gdN s).toNat
def gdT (s : Src) : Int := 3 + (gdM s).2.size
def gdB (s : Src) (k : Nat) : Dsk × Src := gl2 (gdN s) (dbD (gdM s).1.1 (gdM s).1.2) (nx (gdM s).2 (gdT s)).2 k
def good (s : Src) : Dsk × Src := gdB s (nx (gdM s).2 (gdT s)).1.toNat
theorem gdA_ok {s : Src} (h : SrcOk s) (k : Nat) : SrcOk (gdA s k).2 := gl1_ok (nx_ok h) k
theorem gdA_sm (s : Src) (k : Nat) : Sm (gdA s k).1 := gl1_sm zer_sm k
theorem gdB_ok {s : Src} (h : SrcOk s) (k : Nat) : SrcOk (gdB s k).2 := gl2_ok (nx_ok (gdA_ok h _)) k
theorem gdB_sm (s : Src) (k : Nat) : Sm (gdB s k).1 := gl2_sm dbD_sm k
theorem gdA_0 (s : Src) : gdA s 0 = ((zer (gdN s), []), (nx s 5).2) := rfl
theorem gdA_S (s : Src) (k : Nat) : gdA s (k + 1) = if 0 < (nx (gdA s k).2 3).1 then (dwD (gdA s k).1.1 (gdA s k).1.2 k (fill (nx (gdA s k).2 3).2).1, (fill (nx (gdA s k).2 3).2).2) else ((gdA s k).1, (nx (gdA s k).2 3).2) := rfl
theorem gdB_S (s : Src) (k : Nat) : gdB s (k + 1) = (dwD (gdB s k).1.1 (gdB s k).1.2 (nx (gdB s k).2 (gdN s)).1 (fill (nx (gdB s k).2 (gdN s)).2).1, (fill (nx (gdB s k).2 (gdN s)).2).2) := rfl
theorem gdB_0 (s : Src) : gdB s 0 = (dbD (gdM s).1.1 (gdM s).1.2, (nx (gdM s).2 (gdT s)).2) := rfl
theorem l1Fill {w : World} {F : List Nat} {g : Nat} {v : Value} {s : Src} (h : Hs w [rB g 172 [v, .int .i64 (s.pt : Int), .int .i64 s.mix, .int .i64 s.size], rR u8 5 v s.code] F) (nd : F.Nodup) (ok : SrcOk s) : Ret Try.prog 140 #[.pointer (some ⟨g, 0, none⟩)] w (fun r w' => Hold w F w' [rB g 172 [v, .int .i64 ((fill s).2.pt : Int), .int .i64 (fill s).2.mix, .int .i64 (fill s).2.size], rR u8 5 v (fill s).2.code, rR u8 5 r (fill s).1]) := by
  refine enter Try.func140 rfl Try.ntmps140 (by rfl) (by rfl) ?_
  have H0 : Hold w F w [rB g 172 ([v, .int .i64 (s.pt : Int), .int .i64 s.mix, .int .i64 s.size]), rR u8 5 v s.code] := Hold.begin h nd
  have da1 := nx_0 (n := 255) ok
  have dc1 := nx_1 (s := s) (n := 255) (by omega)
  have do1 := nx_ok (n := 255) ok
  obtain ⟨dz1, hz1⟩ : ∃ z, z = (nx s 255).1 := ⟨_, rfl⟩
  obtain ⟨ds1, hs1⟩ : ∃ z, z = (nx s 255).2 := ⟨_, rfl⟩
  rw [← hz1] at da1 dc1
  rw [← hs1] at do1
  obtain ⟨F2, hF2, n2, s2, K2⟩ := Hold.front (Γ := [rB g 172 ([v, .int .i64 (s.pt : Int), .int .i64 s.mix, .int .i64 s.size]), rR u8 5 v s.code]) (Δ := []) H0
  refine sq (rg (r (sa rfl) (re (sq (rg (r (mv rfl) (cl go111 (l1Next (s := s) (m := 255) hF2 n2 ok (by omega)) (ac rfl (ac rfl an)) ?_)))))))
  rintro r wn1 ⟨er1, Hn1⟩
  rw [← hz1] at er1
  rw [← hs1] at Hn1
  subst er1
  have H1 : Hold w F wn1 [rB g 172 ([v, .int .i64 (ds1.pt : Int), .int .i64 ds1.mix, .int .i64 ds1.size]), rR u8 5 v ds1.code] := Hold.call K2 Hn1
  clear H0
  clear K2 hF2 n2 s2
  clear Hn1
  refine r (ad (a := 1) (b := dz1) (1 + dz1) rfl rfl (by omega)) (r (cv (1 + dz1) Try.underlying2 Try.underlying5 rfl (u8_in (by omega))) (r (sa rfl) (re (sq (rg (ef (xbs0 (dk := u8) Try.underlying40 ti5) ?_))))))
  rintro v3 w3 N3
  have H2 : Hold w F w3 [rB g 172 ([v, .int .i64 (ds1.pt : Int), .int .i64 ds1.mix, .int .i64 ds1.size]), rR u8 5 v ds1.code, rR u8 5 v3 ([])] := Hold.newr H1 N3
  clear H1
  refine r (sa rfl) (re (sq (sq (rg (r (sa rfl) (re (bl ?_)))))))
  refine lp (α := Nat × Value) (fun (k, o) ρ w' => ρ 0 = .pointer (some ⟨g, 0, none⟩) ∧ ρ 3 = .int .u8 (1 + dz1) ∧ ρ 4 = o ∧ ρ 5 = .int .i64 (k : Int) ∧ Hold w F w' [rB g 172 ([v, .int .i64 (ds1.pt : Int), .int .i64 ds1.mix, .int .i64 ds1.size]), rR u8 5 v ds1.code, rR u8 5 o (List.replicate k (1 + dz1))] ∧ k ≤ 64) (fun (k, o) => 64 - k) (0, v3) ?_ ?_
  · exact ⟨rfl, rfl, rfl, rfl, H2, by omega⟩
  clear H2
  rintro ⟨k, o⟩ ρ w503 ⟨y0, y3, y4, y5, H3, hk⟩
  refine sq (sq (rg (r (mv y5) (r (bi rfl rfl rfl) (re ?_)))))
  refine cp rfl (fun h => ?_) (fun h => ?_)
  · refine sk (sq (bl (rg (r (mv y4) (r (mv y3) (ef (xbs1 (cs := [.int .u8 (1 + dz1)]) Try.underlying40 ti5 rfl rfl rfl (cel1 rfl) rfl) ?_))))))
    rintro _ w4 ⟨g17, e4, rfl, -, b4, c4⟩
    have H4 : Hold w F w4 [rB g 172 ([v, .int .i64 (ds1.pt : Int), .int .i64 ds1.mix, .int .i64 ds1.size]), rR u8 5 v ds1.code, rR u8 5 o (List.replicate k (1 + dz1)), rB g17 5 ([.int .u8 (1 + dz1)])] := Hold.newB H3 e4 b4 c4
    clear H3
    clear e4 b4 c4
    have b6 : B w4 g17 5 ([.int .u8 (1 + dz1)]) := Hold.blk H4 3 rfl
    obtain ⟨F7, P7, n7, s7, K7⟩ := Hold.pick H4 2 rfl
    replace P7 : Kd.W u8 5 w4 F7 o (List.replicate k (1 + dz1)) := P7
    refine ef (xapb (ys := [1 + dz1]) Try.underlying40 ti5 rfl rfl rfl P7 b6 (els_one (R := Kd.O u8 _) (show Kd.O u8 _ [] (1 + dz1) _ from ⟨rfl, rfl⟩)) (nodup_nil n7) (by simp; omega)) ?_
    rintro v18_5 w5 ⟨F5, A5⟩
    have H5 : Hold w F w5 [rB g 172 ([v, .int .i64 (ds1.pt : Int), .int .i64 ds1.mix, .int .i64 ds1.size]), rR u8 5 v ds1.code, rR u8 5 v18_5 ((List.replicate k (1 + dz1)) ++ [1 + dz1]), rB g17 5 ([.int .u8 (1 + dz1)])] := Hold.apd K7 P7 A5 rfl
    clear H4
    clear A5 K7 P7 n7 s7
    refine r (sa rfl) (re (be (rg (r (mv y5) (r (ad (a := (k : Int)) (b := 1) ((k : Int) + 1) rfl rfl (by omega)) (r (sa rfl) (re ?_)))))))
    have H6 : Hold w F w5 [rB g 172 ([v, .int .i64 (ds1.pt : Int), .int .i64 ds1.mix, .int .i64 ds1.size]), rR u8 5 v ds1.code, rR u8 5 v18_5 ((List.replicate k (1 + dz1)) ++ [1 + dz1])] := (show Hold w F w5 ([rB g 172 ([v, .int .i64 (ds1.pt : Int), .int .i64 ds1.mix, .int .i64 ds1.size]), rR u8 5 v ds1.code, rR u8 5 v18_5 ((List.replicate k (1 + dz1)) ++ [1 + dz1])] ++ [rB g17 5 ([.int .u8 (1 + dz1)])]) from Hold.re H5 [0, 1, 2, 3] (by kernel_rfl) (by rfl)).drop
    clear H5
    exact ag (k + 1, v18_5) ⟨y0, y3, rfl, rfl, (by rw [List.replicate_succ']; exact H6), by omega⟩ (by first | omega | (dsimp only; omega))
  · obtain rfl : k = 64 := by omega
    have da4 := nx_0 (n := 64) do1
    have dc4 := nx_1 (s := ds1) (n := 64) (by omega)
    have do4 := nx_ok (n := 64) do1
    obtain ⟨dz4, hz4⟩ : ∃ z, z = (nx ds1 64).1 := ⟨_, rfl⟩
    obtain ⟨ds4, hs4⟩ : ∃ z, z = (nx ds1 64).2 := ⟨_, rfl⟩
    rw [← hz4] at da4 dc4
    rw [← hs4] at do4
    obtain ⟨m2, hm4⟩ : ∃ m : Nat, dz4 = (m : Int) := ⟨dz4.toNat, by omega⟩
    have da5 := nx_0 (n := 256) do4
    have dc5 := nx_1 (s := ds4) (n := 256) (by omega)
    have do5 := nx_ok (n := 256) do4
    obtain ⟨dz5, hz5⟩ : ∃ z, z = (nx ds4 256).1 := ⟨_, rfl⟩
    obtain ⟨ds5, hs5⟩ : ∃ z, z = (nx ds4 256).2 := ⟨_, rfl⟩
    rw [← hz5] at da5 dc5
    rw [← hs5] at do5
    obtain ⟨F6, hF6, n6, s6, K6⟩ := Hold.front (Γ := [rB g 172 ([v, .int .i64 (ds1.pt : Int), .int .i64 ds1.mix, .int .i64 ds1.size]), rR u8 5 v ds1.code]) (Δ := [rR u8 5 o (List.replicate 64 (1 + dz1))]) H3
    refine ex rfl (sq (rg (r (mv y4) (r (mv y0) (cl go111 (l1Next (s := ds1) (m := 64) hF6 n6 do1 (by omega)) (ac rfl (ac rfl an)) ?_)))))
    rintro r wn4 ⟨er4, Hn4⟩
    rw [← hz4, hm4] at er4
    rw [← hs4] at Hn4
    subst er4
    have H4 : Hold w F wn4 [rB g 172 ([v, .int .i64 (ds4.pt : Int), .int .i64 ds4.mix, .int .i64 ds4.size]), rR u8 5 v ds4.code, rR u8 5 o (List.replicate 64 (1 + dz1))] := Hold.call K6 Hn4
    clear H3
    clear K6 hF6 n6 s6
    clear Hn4
    obtain ⟨F7, hF7, n7, s7, K7⟩ := Hold.front (Γ := [rB g 172 ([v, .int .i64 (ds4.pt : Int), .int .i64 ds4.mix, .int .i64 ds4.size]), rR u8 5 v ds4.code]) (Δ := [rR u8 5 o (List.replicate 64 (1 + dz1))]) H4
    refine r (mv y0) (cl go111 (l1Next (s := ds4) (m := 256) hF7 n7 do4 (by omega)) (ac rfl (ac rfl an)) ?_)
    rintro r wn5 ⟨er5, Hn5⟩
    rw [← hz5] at er5
    rw [← hs5] at Hn5
    subst er5
    have H5 : Hold w F wn5 [rB g 172 ([v, .int .i64 (ds5.pt : Int), .int .i64 ds5.mix, .int .i64 ds5.size]), rR u8 5 v ds5.code, rR u8 5 o (List.replicate 64 (1 + dz1))] := Hold.call K7 Hn5
    clear H4
    clear K7 hF7 n7 s7
    clear Hn5
    obtain ⟨F9, P9, n9, s9, K9⟩ := Hold.pick H5 2 rfl
    replace P9 : Kd.W u8 5 wn5 F9 o (List.replicate 64 (1 + dz1)) := P9
    refine r (cv (dz5) Try.underlying2 Try.underlying5 rfl (u8_in (by omega))) (ixs (a := dz5) (j := m2) Try.underlying40 ti5 rfl P9 rfl (by simp; omega) (fun _ => rfl) ⟨rfl, rfl⟩ (nodup_nil n9) ?_)
    intro _ w8 F8 s8 A8
    have H6 : Hold w F w8 [rB g 172 ([v, .int .i64 (ds5.pt : Int), .int .i64 ds5.mix, .int .i64 ds5.size]), rR u8 5 v ds5.code, rR u8 5 o ((List.replicate 64 (1 + dz1)).set m2 dz5)] := Hold.apd K9 P9 A8 rfl
    clear H5
    clear A8 K9 P9 n9 s9 s8
    refine re (sq (rg (r (mv y4) (r (sa rfl) (re (rt ?_))))))
    have eF : fill s = ((List.replicate 64 (1 + dz1)).set m2 dz5, ds5) := by
      unfold fill; simp only [← hz1, ← hs1, ← hz4, ← hs4, ← hz5, ← hs5, hm4, Int.toNat_natCast]
    rw [eF]
    exact fin1 (v := o) Try.results140 rfl H6
attribute [irreducible] fill
theorem l1DrawGood {w : World} {F : List Nat} {g : Nat} {v : Value} {s : Src} (h : Hs w [rB g 172 [v, .int .i64 (s.pt : Int), .int .i64 s.mix, .int .i64 s.size], rR u8 5 v s.code] F) (nd : F.Nodup) (ok : SrcOk s) : Ret Try.prog 158 #[.pointer (some ⟨g, 0, none⟩)] w (fun r w' => ∃ a c, r = .agg #[a, c] ∧ Hold w F w' [rB g 172 [v, .int .i64 ((good s).2.pt : Int), .int .i64 (good s).2.mix, .int .i64 (good s).2.size], rR u8 5 v (good s).2.code, rR u8 5 a (good s).1.1, rR kW 112 c (good s).1.2]) := by
  refine enter Try.func158 rfl Try.ntmps158 (by rfl) (by rfl) ?_
  have H0 : Hold w F w [rB g 172 ([v, .int .i64 (s.pt : Int), .int .i64 s.mix, .int .i64 s.size]), rR u8 5 v s.code] := Hold.begin h nd
  have da1 := nx_0 (n := 5) ok
  have dc1 := nx_1 (s := s) (n := 5) (by omega)
  have do1 := nx_ok (n := 5) ok
  obtain ⟨dz1, hz1⟩ : ∃ z, z = (nx s 5).1 := ⟨_, rfl⟩
  obtain ⟨ds1, hs1⟩ : ∃ z, z = (nx s 5).2 := ⟨_, rfl⟩
  rw [← hz1] at da1 dc1
  rw [← hs1] at do1
  have eN : gdN s = 1 + dz1 := by unfold gdN; rw [← hz1]
  have hN : 1 ≤ gdN s ∧ gdN s ≤ 1200 := by omega
  have hb := zer_blks hN
  have hl0 := zer_len (gdN s)
  refine sq (rg (ef (xal ti49) ?_))
  rintro _ w2 ⟨g2, e2, rfl, -, b2, c2⟩
  have H1 : Hold w F w2 [rB g 172 ([v, .int .i64 (s.pt : Int), .int .i64 s.mix, .int .i64 s.size]), rR u8 5 v s.code, rB g2 49 ([.slice none 0 0, .slice none 0 0])] := Hold.newB H0 e2 b2 c2
  clear H0
  clear e2 b2 c2
  obtain ⟨F3, hF3, n3, s3, K3⟩ := Hold.front (Γ := [rB g 172 ([v, .int .i64 (s.pt : Int), .int .i64 s.mix, .int .i64 s.size]), rR u8 5 v s.code]) (Δ := [rB g2 49 ([.slice none 0 0, .slice none 0 0])]) H1
  refine re (sq (rg (r (mv rfl) (cl go111 (l1Next (s := s) (m := 5) hF3 n3 ok (by omega)) (ac rfl (ac rfl an)) ?_))))
  rintro r wn1 ⟨er1, Hn1⟩
  rw [← hz1] at er1
  rw [← hs1] at Hn1
  subst er1
  have H2 : Hold w F wn1 [rB g 172 ([v, .int .i64 (ds1.pt : Int), .int .i64 ds1.mix, .int .i64 ds1.size]), rR u8 5 v ds1.code, rB g2 49 ([.slice none 0 0, .slice none 0 0])] := Hold.call K3 Hn1
  clear H1
  clear K3 hF3 n3 s3
  clear Hn1
  refine r (ad (a := 1) (b := dz1) (gdN s) rfl rfl (by omega)) (cl go39 (spec_NewDisk_H) (ac rfl an) ?_)
  rintro r wn ⟨x, y, rfl, Hn1⟩
  have H3 : Hold w F wn [rB g 172 ([v, .int .i64 (ds1.pt : Int), .int .i64 ds1.mix, .int .i64 ds1.size]), rR u8 5 v ds1.code, rB g2 49 ([.slice none 0 0, .slice none 0 0]), rR u8 5 x (zer (gdN s)), rR kW 112 y ([] : List Wr)] := Hold.news H2 Hn1
  clear H2
  clear Hn1
  refine ef (xal ti49) ?_
  rintro _ w5 ⟨g3, e5, rfl, -, b5, c5⟩
  have H4 : Hold w F w5 [rB g 172 ([v, .int .i64 (ds1.pt : Int), .int .i64 ds1.mix, .int .i64 ds1.size]), rR u8 5 v ds1.code, rB g2 49 ([.slice none 0 0, .slice none 0 0]), rR u8 5 x (zer (gdN s)), rR kW 112 y ([] : List Wr), rB g3 49 ([.slice none 0 0, .slice none 0 0])] := Hold.newB H3 e5 b5 c5
  clear H3
  clear e5 b5 c5
  have b6 : B w5 g3 49 ([.slice none 0 0, .slice none 0 0]) := Hold.blk H4 5 rfl
  obtain ⟨_, R8⟩ : ∃ F, Kd.R kW w5 F y ([] : List Wr) := Hold.row H4 4 rfl
  obtain ⟨_, R9⟩ : ∃ F, Kd.R u8 w5 F x (zer (gdN s)) := Hold.row H4 3 rfl
  refine ef0 (xst (vs := [x, y]) ti49 rfl rfl rfl b6 rfl (Nat.le_of_ble_eq_true rfl) (oc (R9).oneCell (oc (R8).oneCell on))) ?_
  rintro w7 ⟨-, b7, c7⟩
  have H5 : Hold w F w7 [rB g 172 ([v, .int .i64 (ds1.pt : Int), .int .i64 ds1.mix, .int .i64 ds1.size]), rR u8 5 v ds1.code, rB g2 49 ([.slice none 0 0, .slice none 0 0]), rR u8 5 x (zer (gdN s)), rR kW 112 y ([] : List Wr), rB g3 49 ([x, y])] := Hold.setB H4 5 rfl b7 c7 rfl
  clear H4
  clear b7 c7
  have b10 : B w7 g3 49 ([x, y]) := Hold.blk H5 5 rfl
  obtain ⟨_, R12⟩ : ∃ F, Kd.R u8 w7 F x (zer (gdN s)) := Hold.row H5 3 rfl
  refine re (sq (rg (r (lab [x, y] Try.underlying49 rfl ti49 rfl b10 rfl rfl) (cl go115 (l1Blocks R12 (by omega)) (ac rfl an) ?_))))
  rintro r wb ⟨er, cb⟩
  rw [hb] at er
  subst er
  have H6 : Hold w F wb [rB g 172 ([v, .int .i64 (ds1.pt : Int), .int .i64 ds1.mix, .int .i64 ds1.size]), rR u8 5 v ds1.code, rB g2 49 ([.slice none 0 0, .slice none 0 0]), rR u8 5 x (zer (gdN s)), rR kW 112 y ([] : List Wr), rB g3 49 ([x, y])] := Hold.t H5 cb
  clear H5
  clear cb
  refine r (sa rfl) (re (sq (sq (rg (r (sa rfl) (re (bl ?_)))))))
  have e0 : (zer (gdN s), ([] : List Wr)) = (gdA s 0).1 := rfl
  have e1 : ds1 = (gdA s 0).2 := by rw [gdA_0, hs1]
  refine lp (α := Nat × Value × Value) (fun (k, a, c) ρ w' => ρ 0 = .pointer (some ⟨g, 0, none⟩) ∧ ρ 2 = .pointer (some ⟨g2, 0, none⟩) ∧ ρ 3 = .pointer (some ⟨g3, 0, none⟩) ∧ ρ 4 = .int .i64 (gdN s) ∧ ρ 5 = .int .i64 (k : Int) ∧ Hold w F w' [rB g 172 ([v, .int .i64 ((gdA s k).2.pt : Int), .int .i64 ((gdA s k).2.mix), .int .i64 ((gdA s k).2.size)]), rR u8 5 v ((gdA s k).2.code), rB g2 49 ([.slice none 0 0, .slice none 0 0]), rR u8 5 a ((gdA s k).1.1), rR kW 112 c ((gdA s k).1.2), rB g3 49 ([a, c])] ∧ (k : Int) ≤ gdN s) (fun (k, a, c) => (gdN s - k).toNat) (0, x, y) ?_ ?_
  · exact ⟨rfl, rfl, rfl, rfl, rfl, (by rw [e1] at H6; exact H6), by omega⟩
  clear H6
  rintro ⟨k, a, c⟩ ρ w507 ⟨y0, y2, y3, y4, y5, H7, hk⟩
  refine sq (sq (rg (r (mv y5) (r (mv y4) (r (bi rfl rfl rfl) (re ?_))))))
  refine cp rfl (fun h => ?_) (fun h => ?_)
  · obtain ⟨lx, hlp, lxx, -⟩ := (gdA_sm s k)
    replace lx := Nat.le_trans lx (show 1000000 ≤ 1000000000 by omega)
    replace hlp := Nat.le_trans hlp (show 1000000 ≤ 2000000 by omega)
    have da13 := nx_0 (n := 3) (gdA_ok ok k)
    have dc13 := nx_1 (s := ((gdA s k).2)) (n := 3) (by omega)
    have do13 := nx_ok (n := 3) (gdA_ok ok k)
    obtain ⟨dz13, hz13⟩ : ∃ z, z = (nx ((gdA s k).2) 3).1 := ⟨_, rfl⟩
    obtain ⟨ds13, hs13⟩ : ∃ z, z = (nx ((gdA s k).2) 3).2 := ⟨_, rfl⟩
    rw [← hz13] at da13 dc13
    rw [← hs13] at do13
    obtain ⟨F14, hF14, n14, s14, K14⟩ := Hold.front (Γ := [rB g 172 ([v, .int .i64 ((gdA s k).2.pt : Int), .int .i64 ((gdA s k).2.mix), .int .i64 ((gdA s k).2.size)]), rR u8 5 v ((gdA s k).2.code)]) (Δ := [rB g2 49 ([.slice none 0 0, .slice none 0 0]), rR u8 5 a ((gdA s k).1.1), rR kW 112 c ((gdA s k).1.2), rB g3 49 ([a, c])]) H7
    refine sk (sq (bl (sq (rg (r (mv y0) (cl go111 (l1Next (s := ((gdA s k).2)) (m := 3) hF14 n14 (gdA_ok ok k) (by omega)) (ac rfl (ac rfl an)) ?_))))))
    rintro r wn13 ⟨er13, Hn13⟩
    rw [← hz13] at er13
    rw [← hs13] at Hn13
    subst er13
    have H8 : Hold w F wn13 [rB g 172 ([v, .int .i64 (ds13.pt : Int), .int .i64 ds13.mix, .int .i64 ds13.size]), rR u8 5 v ds13.code, rB g2 49 ([.slice none 0 0, .slice none 0 0]), rR u8 5 a ((gdA s k).1.1), rR kW 112 c ((gdA s k).1.2), rB g3 49 ([a, c])] := Hold.call K14 Hn13
    clear H7
    clear K14 hF14 n14 s14
    clear Hn13
    refine r (bi rfl rfl rfl) (re ?_)
    refine cp rfl (fun h3 => ?_) (fun h3 => ?_)
    · have eS := gdA_S s k
      rw [← hz13, ← hs13, if_pos h3] at eS
      have lf := fill_len ds13
      refine rde mixed ?_
      intro w15 c15
      have H9 : Hold w F w15 [rB g 172 ([v, .int .i64 (ds13.pt : Int), .int .i64 ds13.mix, .int .i64 ds13.size]), rR u8 5 v ds13.code, rB g2 49 ([.slice none 0 0, .slice none 0 0]), rR u8 5 a ((gdA s k).1.1), rR kW 112 c ((gdA s k).1.2), rB g3 49 ([a, c])] := Hold.t H8 c15
      clear H8
      clear c15
      obtain ⟨Fd16, hFd16, nd16, Kd16, Xd16, sd16⟩ := Hold.frontx (Γ := [rB g 172 ([v, .int .i64 (ds13.pt : Int), .int .i64 ds13.mix, .int .i64 ds13.size]), rR u8 5 v ds13.code]) (Δ := [rB g2 49 ([.slice none 0 0, .slice none 0 0]), rR u8 5 a ((gdA s k).1.1), rR kW 112 c ((gdA s k).1.2), rB g3 49 ([a, c])]) H9
      have H16d0 : Hold w15 Fd16 w15 [rB g 172 ([v, .int .i64 (ds13.pt : Int), .int .i64 ds13.mix, .int .i64 ds13.size]), rR u8 5 v ds13.code] := Hold.begin hFd16 nd16
      refine ⟨fun w' => Ch Fd16 w15 w', Ch.refl _ _, ?_⟩
      obtain ⟨_, ⟨rfl, b17⟩, x17⟩ := Xd16 3 (rB g3 49 ([a, c])) rfl
      obtain ⟨F18, hF18, n18, s18, K18⟩ := Hold.front (Γ := [rB g 172 ([v, .int .i64 (ds13.pt : Int), .int .i64 ds13.mix, .int .i64 ds13.size]), rR u8 5 v ds13.code]) (Δ := []) H16d0
      refine edt 0 rfl (by kernel_rfl) (fun w' hS => lab [a, c] Try.underlying49 rfl ti49 y3 (hS.b b17 (x17 _ (by simp))) rfl rfl) (edt 1 rfl (by kernel_rfl) (fun w' hS => mv y5) (edt 2 rfl (by kernel_rfl) (fun w' hS => mv y0) (ed1 3 (by kernel_rfl) <| euc rfl go140 (ac rfl an) (l1Fill hF18 n18 do13) ?_)))
      rintro rf wf Hf
      have H10d : Hold w15 Fd16 wf [rB g 172 ([v, .int .i64 ((fill ds13).2.pt : Int), .int .i64 ((fill ds13).2.mix), .int .i64 ((fill ds13).2.size)]), rR u8 5 v ((fill ds13).2.code), rR u8 5 rf ((fill ds13).1)] := Hold.call K18 Hf
      clear H16d0
      clear K18 hF18 n18 s18
      clear Hf
      refine ⟨.inr (Hold.ch H10d), ?_⟩
      obtain ⟨_, R20, x20⟩ := Xd16 1 (rR u8 5 a ((gdA s k).1.1)) rfl
      replace R20 := Kd.W.R R20
      obtain ⟨_, R21, x21⟩ := Xd16 2 (rR kW 112 c ((gdA s k).1.2)) rfl
      replace R21 := Kd.W.R R21
      obtain ⟨_, R22⟩ : ∃ F, Kd.R u8 wf F rf ((fill ds13).1) := Hold.row H10d 2 rfl
      refine ed1 4 (by kernel_rfl) <| euc rfl go82 (ac rfl (ac rfl (ac rfl an))) (spec_DiskWrite (R20.tt (Hold.ch H10d) x20) (R21.tt (Hold.ch H10d) x21) lx hlp lxx R22 (by omega)) ?_
      rintro r wD ⟨a2, c2, rfl, HD⟩
      have H11d : Hold w15 Fd16 wD [rB g 172 ([v, .int .i64 ((fill ds13).2.pt : Int), .int .i64 ((fill ds13).2.mix), .int .i64 ((fill ds13).2.size)]), rR u8 5 v ((fill ds13).2.code), rR u8 5 rf ((fill ds13).1), rR u8 5 a2 ((dwD (gdA s k).1.1 (gdA s k).1.2 (k : Int) (fill ds13).1).1), rR kW 112 c2 ((dwD (gdA s k).1.1 (gdA s k).1.2 (k : Int) (fill ds13).1).2)] := Hold.news H10d HD
      clear H10d
      clear HD
      refine ⟨.inr (Hold.ch H11d), ?_⟩
      have H12 : Hold w F wD [rB g 172 ([v, .int .i64 ((fill ds13).2.pt : Int), .int .i64 ((fill ds13).2.mix), .int .i64 ((fill ds13).2.size)]), rR u8 5 v ((fill ds13).2.code), rR u8 5 rf ((fill ds13).1), rR u8 5 a2 ((dwD (gdA s k).1.1 (gdA s k).1.2 (k : Int) (fill ds13).1).1), rR kW 112 c2 ((dwD (gdA s k).1.1 (gdA s k).1.2 (k : Int) (fill ds13).1).2), rB g2 49 ([.slice none 0 0, .slice none 0 0]), rR u8 5 a ((gdA s k).1.1), rR kW 112 c ((gdA s k).1.2), rB g3 49 ([a, c])] := Hold.call Kd16 H11d
      clear H11d H9
      have b23 : B wD g3 49 ([a, c]) := Hold.blk H12 8 rfl
      obtain ⟨_, R25⟩ : ∃ F, Kd.R kW wD F c2 ((dwD (gdA s k).1.1 (gdA s k).1.2 (k : Int) (fill ds13).1).2) := Hold.row H12 4 rfl
      obtain ⟨_, R26⟩ : ∃ F, Kd.R u8 wD F a2 ((dwD (gdA s k).1.1 (gdA s k).1.2 (k : Int) (fill ds13).1).1) := Hold.row H12 3 rfl
      refine ed1 5 (by kernel_rfl) <| euf0 rfl (xst (vs := [a2, c2]) ti49 y3 rfl rfl b23 rfl (Nat.le_of_ble_eq_true rfl) (oc (R26).oneCell (oc (R25).oneCell on))) ?_
      rintro w24 ⟨-, b24, c24⟩
      have H13 : Hold w F w24 [rB g 172 ([v, .int .i64 ((fill ds13).2.pt : Int), .int .i64 ((fill ds13).2.mix), .int .i64 ((fill ds13).2.size)]), rR u8 5 v ((fill ds13).2.code), rR u8 5 rf ((fill ds13).1), rR u8 5 a2 ((dwD (gdA s k).1.1 (gdA s k).1.2 (k : Int) (fill ds13).1).1), rR kW 112 c2 ((dwD (gdA s k).1.1 (gdA s k).1.2 (k : Int) (fill ds13).1).2), rB g2 49 ([.slice none 0 0, .slice none 0 0]), rR u8 5 a ((gdA s k).1.1), rR kW 112 c ((gdA s k).1.2), rB g3 49 ([a2, c2])] := Hold.setB H12 8 rfl b24 c24 rfl
      clear H12
      clear b24 c24
      refine ⟨.inl (by kernel_rfl), ?_⟩
      refine edd (by kernel_rfl) ?_
      refine be ?_
      refine gen (fun ρ => ρ 0 = .pointer (some ⟨g, 0, none⟩) ∧ ρ 2 = .pointer (some ⟨g2, 0, none⟩) ∧ ρ 3 = .pointer (some ⟨g3, 0, none⟩) ∧ ρ 4 = .int .i64 (gdN s) ∧ ρ 5 = .int .i64 (k : Int) ∧ True) ⟨y0, y2, y3, y4, y5, trivial⟩ ?_
      rintro ρ ⟨z0, z2, z3, z4, z5, -⟩
      refine rg (r (mv z5) (r (ad (a := (k : Int)) (b := 1) ((k : Int) + 1) rfl rfl (by omega)) (r (sa rfl) (re ?_))))
      have H14 : Hold w F w24 [rB g 172 ([v, .int .i64 ((fill ds13).2.pt : Int), .int .i64 ((fill ds13).2.mix), .int .i64 ((fill ds13).2.size)]), rR u8 5 v ((fill ds13).2.code), rB g2 49 ([.slice none 0 0, .slice none 0 0]), rB g3 49 ([a2, c2]), rR u8 5 a2 ((dwD (gdA s k).1.1 (gdA s k).1.2 (k : Int) (fill ds13).1).1), rR kW 112 c2 ((dwD (gdA s k).1.1 (gdA s k).1.2 (k : Int) (fill ds13).1).2)] := (show Hold w F w24 ([rB g 172 ([v, .int .i64 ((fill ds13).2.pt : Int), .int .i64 ((fill ds13).2.mix), .int .i64 ((fill ds13).2.size)]), rR u8 5 v ((fill ds13).2.code), rB g2 49 ([.slice none 0 0, .slice none 0 0]), rB g3 49 ([a2, c2]), rR u8 5 a2 ((dwD (gdA s k).1.1 (gdA s k).1.2 (k : Int) (fill ds13).1).1), rR kW 112 c2 ((dwD (gdA s k).1.1 (gdA s k).1.2 (k : Int) (fill ds13).1).2)] ++ [rR u8 5 rf ((fill ds13).1), rR u8 5 a ((gdA s k).1.1), rR kW 112 c ((gdA s k).1.2)]) from Hold.re H13 [0, 1, 5, 8, 3, 4, 2, 6, 7] (by kernel_rfl) (by rfl)).drop
      clear H13
      have H15 : Hold w F w24 [rB g 172 ([v, .int .i64 ((fill ds13).2.pt : Int), .int .i64 ((fill ds13).2.mix), .int .i64 ((fill ds13).2.size)]), rR u8 5 v ((fill ds13).2.code), rB g2 49 ([.slice none 0 0, .slice none 0 0]), rR u8 5 a2 ((dwD (gdA s k).1.1 (gdA s k).1.2 (k : Int) (fill ds13).1).1), rR kW 112 c2 ((dwD (gdA s k).1.1 (gdA s k).1.2 (k : Int) (fill ds13).1).2), rB g3 49 ([a2, c2])] := Hold.re H14 [0, 1, 2, 4, 5, 3] (by kernel_rfl) (by rfl)
      clear H14
      exact ag (k + 1, a2, c2) ⟨z0, z2, z3, z4, rfl, (by rw [eS]; exact H15), by omega⟩ (by first | omega | (dsimp only; omega))
    · have eS := gdA_S s k
      rw [← hz13, ← hs13, if_neg h3] at eS
      refine sk (be (rg (r (mv y5) (r (ad (a := (k : Int)) (b := 1) ((k : Int) + 1) rfl rfl (by omega)) (r (sa rfl) (re ?_))))))
      exact ag (k + 1, a, c) ⟨y0, y2, y3, y4, rfl, (by rw [eS]; exact H8), by omega⟩ (by first | omega | (dsimp only; omega))
  · obtain rfl : k = (gdN s).toNat := by omega
    have eM : gdA s (gdN s).toNat = gdM s := rfl
    have H8 : Hold w F w507 [rB g 172 ([v, .int .i64 ((gdM s).2.pt : Int), .int .i64 ((gdM s).2.mix), .int .i64 ((gdM s).2.size)]), rR u8 5 v ((gdM s).2.code), rB g2 49 ([.slice none 0 0, .slice none 0 0]), rR u8 5 a ((gdM s).1.1), rR kW 112 c ((gdM s).1.2), rB g3 49 ([a, c])] := (by rw [eM] at H7; exact H7)
    clear H7
    obtain ⟨lx, hlp, lxx, -⟩ := (gdA_sm s (gdN s).toNat)
    replace lx := Nat.le_trans lx (show 1000000 ≤ 1000000000 by omega)
    replace hlp := Nat.le_trans hlp (show 1000000 ≤ 2000000 by omega)
    rw [eM] at lx hlp lxx
    have okM : SrcOk (gdM s).2 := gdA_ok ok _
    have hz1 := okM.s0
    have hz2 := okM.s1
    have eT : gdT s = 3 + (gdM s).2.size := rfl
    have da13 := nx_0 (n := gdT s) okM
    have dc13 := nx_1 (s := ((gdM s).2)) (n := gdT s) (by omega)
    have do13 := nx_ok (n := gdT s) okM
    obtain ⟨dz13, hz13⟩ : ∃ z, z = (nx ((gdM s).2) (gdT s)).1 := ⟨_, rfl⟩
    obtain ⟨ds13, hs13⟩ : ∃ z, z = (nx ((gdM s).2) (gdT s)).2 := ⟨_, rfl⟩
    rw [← hz13] at da13 dc13
    rw [← hs13] at do13
    obtain ⟨m, hm13⟩ : ∃ m : Nat, dz13 = (m : Int) := ⟨dz13.toNat, by omega⟩
    have b14 : B w507 g3 49 ([a, c]) := Hold.blk H8 5 rfl
    obtain ⟨_, R16⟩ : ∃ F, Kd.R u8 w507 F a ((gdM s).1.1) := Hold.row H8 3 rfl
    obtain ⟨_, R17⟩ : ∃ F, Kd.R kW w507 F c ((gdM s).1.2) := Hold.row H8 4 rfl
    refine ex rfl (sq (rg (r (lab [a, c] Try.underlying49 rfl ti49 y3 b14 rfl rfl) (cl go84 (spec_DiskBarrier R16 R17 lx hlp lxx) (ac rfl an) ?_))))
    rintro r wD ⟨a2, c2, rfl, HD⟩
    have H9 : Hold w F wD [rB g 172 ([v, .int .i64 ((gdM s).2.pt : Int), .int .i64 ((gdM s).2.mix), .int .i64 ((gdM s).2.size)]), rR u8 5 v ((gdM s).2.code), rB g2 49 ([.slice none 0 0, .slice none 0 0]), rR u8 5 a ((gdM s).1.1), rR kW 112 c ((gdM s).1.2), rB g3 49 ([a, c]), rR u8 5 a2 ((dbD (gdM s).1.1 (gdM s).1.2).1), rR kW 112 c2 ((dbD (gdM s).1.1 (gdM s).1.2).2)] := Hold.news H8 HD
    clear H8
    clear HD
    have b18 : B wD g3 49 ([a, c]) := Hold.blk H9 5 rfl
    obtain ⟨_, R20⟩ : ∃ F, Kd.R kW wD F c2 ((dbD (gdM s).1.1 (gdM s).1.2).2) := Hold.row H9 7 rfl
    obtain ⟨_, R21⟩ : ∃ F, Kd.R u8 wD F a2 ((dbD (gdM s).1.1 (gdM s).1.2).1) := Hold.row H9 6 rfl
    refine ef0 (xst (vs := [a2, c2]) ti49 y3 rfl rfl b18 rfl (Nat.le_of_ble_eq_true rfl) (oc (R21).oneCell (oc (R20).oneCell on))) ?_
    rintro w19 ⟨-, b19, c19⟩
    have H10 : Hold w F w19 [rB g 172 ([v, .int .i64 ((gdM s).2.pt : Int), .int .i64 ((gdM s).2.mix), .int .i64 ((gdM s).2.size)]), rR u8 5 v ((gdM s).2.code), rB g2 49 ([.slice none 0 0, .slice none 0 0]), rR u8 5 a ((gdM s).1.1), rR kW 112 c ((gdM s).1.2), rB g3 49 ([a2, c2]), rR u8 5 a2 ((dbD (gdM s).1.1 (gdM s).1.2).1), rR kW 112 c2 ((dbD (gdM s).1.1 (gdM s).1.2).2)] := Hold.setB H9 5 rfl b19 c19 rfl
    clear H9
    clear b19 c19
    have b22 : B w19 g 172 ([v, .int .i64 ((gdM s).2.pt : Int), .int .i64 ((gdM s).2.mix), .int .i64 ((gdM s).2.size)]) := Hold.blk H10 0 rfl
    obtain ⟨F23, hF23, n23, s23, K23⟩ := Hold.front (Γ := [rB g 172 ([v, .int .i64 ((gdM s).2.pt : Int), .int .i64 ((gdM s).2.mix), .int .i64 ((gdM s).2.size)]), rR u8 5 v ((gdM s).2.code)]) (Δ := [rB g2 49 ([.slice none 0 0, .slice none 0 0]), rR u8 5 a ((gdM s).1.1), rR kW 112 c ((gdM s).1.2), rB g3 49 ([a2, c2]), rR u8 5 a2 ((dbD (gdM s).1.1 (gdM s).1.2).1), rR kW 112 c2 ((dbD (gdM s).1.1 (gdM s).1.2).2)]) H10
    refine re (sq (sq (rg (r (mv y0) (r (mv y0) (r (nck rfl) (r (fa Try.underlying172 rfl ti2 rfl rfl) (r (ldb Try.underlying2 rfl rfl b22 rfl) (r (ad (a := 3) (b := (gdM s).2.size) (gdT s) rfl rfl (by omega)) (cl go111 (l1Next (s := ((gdM s).2)) (m := (gdT s)) hF23 n23 okM (by omega)) (ac rfl (ac rfl an)) ?_))))))))))
    rintro r wn13 ⟨er13, Hn13⟩
    rw [← hz13, hm13] at er13
    rw [← hs13] at Hn13
    subst er13
    have H11 : Hold w F wn13 [rB g 172 ([v, .int .i64 (ds13.pt : Int), .int .i64 ds13.mix, .int .i64 ds13.size]), rR u8 5 v ds13.code, rB g2 49 ([.slice none 0 0, .slice none 0 0]), rR u8 5 a ((gdM s).1.1), rR kW 112 c ((gdM s).1.2), rB g3 49 ([a2, c2]), rR u8 5 a2 ((dbD (gdM s).1.1 (gdM s).1.2).1), rR kW 112 c2 ((dbD (gdM s).1.1 (gdM s).1.2).2)] := Hold.call K23 Hn13
    clear H10
    clear K23 hF23 n23 s23
    clear Hn13
    refine r (sa rfl) (re (bl ?_))
    have H12 : Hold w F wn13 [rB g 172 ([v, .int .i64 (ds13.pt : Int), .int .i64 ds13.mix, .int .i64 ds13.size]), rR u8 5 v ds13.code, rB g2 49 ([.slice none 0 0, .slice none 0 0]), rB g3 49 ([a2, c2]), rR u8 5 a2 ((dbD (gdM s).1.1 (gdM s).1.2).1), rR kW 112 c2 ((dbD (gdM s).1.1 (gdM s).1.2).2)] := (show Hold w F wn13 ([rB g 172 ([v, .int .i64 (ds13.pt : Int), .int .i64 ds13.mix, .int .i64 ds13.size]), rR u8 5 v ds13.code, rB g2 49 ([.slice none 0 0, .slice none 0 0]), rB g3 49 ([a2, c2]), rR u8 5 a2 ((dbD (gdM s).1.1 (gdM s).1.2).1), rR kW 112 c2 ((dbD (gdM s).1.1 (gdM s).1.2).2)] ++ [rR u8 5 a ((gdM s).1.1), rR kW 112 c ((gdM s).1.2)]) from Hold.re H11 [0, 1, 2, 5, 6, 7, 3, 4] (by kernel_rfl) (by rfl)).drop
    clear H11
    have e2 : gdB s 0 = (dbD (gdM s).1.1 (gdM s).1.2, ds13) := by rw [gdB_0, hs13]
    have hG : good s = gdB s m := by unfold good; rw [← hz13, hm13, Int.toNat_natCast]
    refine lp (α := Nat × Value × Value) (fun (j, a, c) ρ w' => ρ 0 = .pointer (some ⟨g, 0, none⟩) ∧ ρ 2 = .pointer (some ⟨g2, 0, none⟩) ∧ ρ 3 = .pointer (some ⟨g3, 0, none⟩) ∧ ρ 4 = .int .i64 (gdN s) ∧ ρ 6 = .int .i64 ((m : Int) - (j : Int)) ∧ Hold w F w' [rB g 172 ([v, .int .i64 ((gdB s j).2.pt : Int), .int .i64 ((gdB s j).2.mix), .int .i64 ((gdB s j).2.size)]), rR u8 5 v ((gdB s j).2.code), rB g2 49 ([.slice none 0 0, .slice none 0 0]), rB g3 49 ([a, c]), rR u8 5 a ((gdB s j).1.1), rR kW 112 c ((gdB s j).1.2)] ∧ j ≤ m) (fun (j, a, c) => m - j) (0, a2, c2) ?_ ?_
    · exact ⟨y0, y2, y3, y4, (show _ = Value.int .i64 (m : Int) from rfl).trans (by simp), (by rw [e2]; exact H12), by omega⟩
    clear H12
    rintro ⟨j, a, c⟩ ρ w513 ⟨y0, y2, y3, y4, y6, H13, hj⟩
    refine sq (sq (rg (r (mv y6) (r (bi rfl rfl rfl) (re ?_)))))
    refine cp rfl (fun hc => ?_) (fun hc => ?_)
    · obtain ⟨lx, hlp, lxx, -⟩ := (gdB_sm s j)
      replace lx := Nat.le_trans lx (show 1000000 ≤ 1000000000 by omega)
      replace hlp := Nat.le_trans hlp (show 1000000 ≤ 2000000 by omega)
      have da24 := nx_0 (n := gdN s) (gdB_ok ok j)
      have dc24 := nx_1 (s := ((gdB s j).2)) (n := gdN s) (by omega)
      have do24 := nx_ok (n := gdN s) (gdB_ok ok j)
      obtain ⟨dz24, hz24⟩ : ∃ z, z = (nx ((gdB s j).2) (gdN s)).1 := ⟨_, rfl⟩
      obtain ⟨ds24, hs24⟩ : ∃ z, z = (nx ((gdB s j).2) (gdN s)).2 := ⟨_, rfl⟩
      rw [← hz24] at da24 dc24
      rw [← hs24] at do24
      have eS := gdB_S s j
      rw [← hz24, ← hs24] at eS
      have lf := fill_len ds24
      refine sk (sq (bl ?_))
      refine rde mixed ?_
      intro w25 c25
      have H14 : Hold w F w25 [rB g 172 ([v, .int .i64 ((gdB s j).2.pt : Int), .int .i64 ((gdB s j).2.mix), .int .i64 ((gdB s j).2.size)]), rR u8 5 v ((gdB s j).2.code), rB g2 49 ([.slice none 0 0, .slice none 0 0]), rB g3 49 ([a, c]), rR u8 5 a ((gdB s j).1.1), rR kW 112 c ((gdB s j).1.2)] := Hold.t H13 c25
      clear H13
      clear c25
      obtain ⟨Fd26, hFd26, nd26, Kd26, Xd26, sd26⟩ := Hold.frontx (Γ := [rB g 172 ([v, .int .i64 ((gdB s j).2.pt : Int), .int .i64 ((gdB s j).2.mix), .int .i64 ((gdB s j).2.size)]), rR u8 5 v ((gdB s j).2.code)]) (Δ := [rB g2 49 ([.slice none 0 0, .slice none 0 0]), rB g3 49 ([a, c]), rR u8 5 a ((gdB s j).1.1), rR kW 112 c ((gdB s j).1.2)]) H14
      have H26d0 : Hold w25 Fd26 w25 [rB g 172 ([v, .int .i64 ((gdB s j).2.pt : Int), .int .i64 ((gdB s j).2.mix), .int .i64 ((gdB s j).2.size)]), rR u8 5 v ((gdB s j).2.code)] := Hold.begin hFd26 nd26
      refine ⟨fun w' => Ch Fd26 w25 w', Ch.refl _ _, ?_⟩
      obtain ⟨_, ⟨rfl, b27⟩, x27⟩ := Xd26 1 (rB g3 49 ([a, c])) rfl
      obtain ⟨F28, hF28, n28, s28, K28⟩ := Hold.front (Γ := [rB g 172 ([v, .int .i64 ((gdB s j).2.pt : Int), .int .i64 ((gdB s j).2.mix), .int .i64 ((gdB s j).2.size)]), rR u8 5 v ((gdB s j).2.code)]) (Δ := []) H26d0
      refine edt 0 rfl (by kernel_rfl) (fun w' hS => lab [a, c] Try.underlying49 rfl ti49 y3 (hS.b b27 (x27 _ (by simp))) rfl rfl) (edt 1 rfl (by kernel_rfl) (fun w' hS => mv y0) (edt 2 rfl (by kernel_rfl) (fun w' hS => mv y4) (edt 4 rfl (by kernel_rfl) (fun w' hS => mv y0) (ed1 3 (by kernel_rfl) <| euc rfl go111 (ac rfl (ac rfl an)) (l1Next (s := ((gdB s j).2)) (m := (gdN s)) hF28 n28 (gdB_ok ok j) (by omega)) ?_))))
      rintro r wn24 ⟨er24, Hn24⟩
      rw [← hz24] at er24
      rw [← hs24] at Hn24
      subst er24
      have H15d : Hold w25 Fd26 wn24 [rB g 172 ([v, .int .i64 (ds24.pt : Int), .int .i64 ds24.mix, .int .i64 ds24.size]), rR u8 5 v ds24.code] := Hold.call K28 Hn24
      clear H26d0
      clear K28 hF28 n28 s28
      clear Hn24
      refine ⟨.inr (Hold.ch H15d), ?_⟩
      obtain ⟨F29, hF29, n29, s29, K29⟩ := Hold.front (Γ := [rB g 172 ([v, .int .i64 (ds24.pt : Int), .int .i64 ds24.mix, .int .i64 ds24.size]), rR u8 5 v ds24.code]) (Δ := []) H15d
      refine ed1 5 (by kernel_rfl) <| euc rfl go140 (ac rfl an) (l1Fill hF29 n29 do24) ?_
      rintro rf wf Hf
      have H16d : Hold w25 Fd26 wf [rB g 172 ([v, .int .i64 ((fill ds24).2.pt : Int), .int .i64 ((fill ds24).2.mix), .int .i64 ((fill ds24).2.size)]), rR u8 5 v ((fill ds24).2.code), rR u8 5 rf ((fill ds24).1)] := Hold.call K29 Hf
      clear H15d
      clear K29 hF29 n29 s29
      clear Hf
      refine ⟨.inr (Hold.ch H16d), ?_⟩
      obtain ⟨_, R31, x31⟩ := Xd26 2 (rR u8 5 a ((gdB s j).1.1)) rfl
      replace R31 := Kd.W.R R31
      obtain ⟨_, R32, x32⟩ := Xd26 3 (rR kW 112 c ((gdB s j).1.2)) rfl
      replace R32 := Kd.W.R R32
      obtain ⟨_, R33⟩ : ∃ F, Kd.R u8 wf F rf ((fill ds24).1) := Hold.row H16d 2 rfl
      refine ed1 6 (by kernel_rfl) <| euc rfl go82 (ac rfl (ac rfl (ac rfl an))) (spec_DiskWrite (R31.tt (Hold.ch H16d) x31) (R32.tt (Hold.ch H16d) x32) lx hlp lxx R33 (by omega)) ?_
      rintro r wD ⟨a3, c3, rfl, HD⟩
      have H17d : Hold w25 Fd26 wD [rB g 172 ([v, .int .i64 ((fill ds24).2.pt : Int), .int .i64 ((fill ds24).2.mix), .int .i64 ((fill ds24).2.size)]), rR u8 5 v ((fill ds24).2.code), rR u8 5 rf ((fill ds24).1), rR u8 5 a3 ((dwD (gdB s j).1.1 (gdB s j).1.2 dz24 (fill ds24).1).1), rR kW 112 c3 ((dwD (gdB s j).1.1 (gdB s j).1.2 dz24 (fill ds24).1).2)] := Hold.news H16d HD
      clear H16d
      clear HD
      refine ⟨.inr (Hold.ch H17d), ?_⟩
      have H18 : Hold w F wD [rB g 172 ([v, .int .i64 ((fill ds24).2.pt : Int), .int .i64 ((fill ds24).2.mix), .int .i64 ((fill ds24).2.size)]), rR u8 5 v ((fill ds24).2.code), rR u8 5 rf ((fill ds24).1), rR u8 5 a3 ((dwD (gdB s j).1.1 (gdB s j).1.2 dz24 (fill ds24).1).1), rR kW 112 c3 ((dwD (gdB s j).1.1 (gdB s j).1.2 dz24 (fill ds24).1).2), rB g2 49 ([.slice none 0 0, .slice none 0 0]), rB g3 49 ([a, c]), rR u8 5 a ((gdB s j).1.1), rR kW 112 c ((gdB s j).1.2)] := Hold.call Kd26 H17d
      clear H17d H14
      have b34 : B wD g3 49 ([a, c]) := Hold.blk H18 6 rfl
      obtain ⟨_, R36⟩ : ∃ F, Kd.R kW wD F c3 ((dwD (gdB s j).1.1 (gdB s j).1.2 dz24 (fill ds24).1).2) := Hold.row H18 4 rfl
      obtain ⟨_, R37⟩ : ∃ F, Kd.R u8 wD F a3 ((dwD (gdB s j).1.1 (gdB s j).1.2 dz24 (fill ds24).1).1) := Hold.row H18 3 rfl
      refine ed1 7 (by kernel_rfl) <| euf0 rfl (xst (vs := [a3, c3]) ti49 y3 rfl rfl b34 rfl (Nat.le_of_ble_eq_true rfl) (oc (R37).oneCell (oc (R36).oneCell on))) ?_
      rintro w35 ⟨-, b35, c35⟩
      have H19 : Hold w F w35 [rB g 172 ([v, .int .i64 ((fill ds24).2.pt : Int), .int .i64 ((fill ds24).2.mix), .int .i64 ((fill ds24).2.size)]), rR u8 5 v ((fill ds24).2.code), rR u8 5 rf ((fill ds24).1), rR u8 5 a3 ((dwD (gdB s j).1.1 (gdB s j).1.2 dz24 (fill ds24).1).1), rR kW 112 c3 ((dwD (gdB s j).1.1 (gdB s j).1.2 dz24 (fill ds24).1).2), rB g2 49 ([.slice none 0 0, .slice none 0 0]), rB g3 49 ([a3, c3]), rR u8 5 a ((gdB s j).1.1), rR kW 112 c ((gdB s j).1.2)] := Hold.setB H18 6 rfl b35 c35 rfl
      clear H18
      clear b35 c35
      refine ⟨.inl (by kernel_rfl), ?_⟩
      refine edd (by kernel_rfl) ?_
      refine be (rg (r (mv y6) (r (sb (a := (m : Int) - (j : Int)) (b := 1) ((m : Int) - ((j + 1 : Nat) : Int)) rfl rfl (by omega)) (r (sa rfl) (re ?_)))))
      have H20 : Hold w F w35 [rB g 172 ([v, .int .i64 ((fill ds24).2.pt : Int), .int .i64 ((fill ds24).2.mix), .int .i64 ((fill ds24).2.size)]), rR u8 5 v ((fill ds24).2.code), rB g2 49 ([.slice none 0 0, .slice none 0 0]), rB g3 49 ([a3, c3]), rR u8 5 a3 ((dwD (gdB s j).1.1 (gdB s j).1.2 dz24 (fill ds24).1).1), rR kW 112 c3 ((dwD (gdB s j).1.1 (gdB s j).1.2 dz24 (fill ds24).1).2)] := (show Hold w F w35 ([rB g 172 ([v, .int .i64 ((fill ds24).2.pt : Int), .int .i64 ((fill ds24).2.mix), .int .i64 ((fill ds24).2.size)]), rR u8 5 v ((fill ds24).2.code), rB g2 49 ([.slice none 0 0, .slice none 0 0]), rB g3 49 ([a3, c3]), rR u8 5 a3 ((dwD (gdB s j).1.1 (gdB s j).1.2 dz24 (fill ds24).1).1), rR kW 112 c3 ((dwD (gdB s j).1.1 (gdB s j).1.2 dz24 (fill ds24).1).2)] ++ [rR u8 5 rf ((fill ds24).1), rR u8 5 a ((gdB s j).1.1), rR kW 112 c ((gdB s j).1.2)]) from Hold.re H19 [0, 1, 5, 6, 3, 4, 2, 7, 8] (by kernel_rfl) (by rfl)).drop
      clear H19
      exact ag (j + 1, a3, c3) ⟨y0, y2, y3, y4, rfl, (by rw [eS]; exact H20), by omega⟩ (by first | omega | (dsimp only; omega))
    · obtain rfl : j = m := by omega
      rw [hG]
      have b24 : B w513 g3 49 ([a, c]) := Hold.blk H13 3 rfl
      have b25 : B w513 g2 49 ([.slice none 0 0, .slice none 0 0]) := Hold.blk H13 2 rfl
      obtain ⟨_, R27⟩ : ∃ F, Kd.R kW w513 F c ((gdB s j).1.2) := Hold.row H13 5 rfl
      obtain ⟨_, R28⟩ : ∃ F, Kd.R u8 w513 F a ((gdB s j).1.1) := Hold.row H13 4 rfl
      refine ex rfl (sq (rg (r (lab [a, c] Try.underlying49 rfl ti49 y3 b24 rfl rfl) (ef0 (xst (vs := [a, c]) ti49 y2 rfl rfl b25 rfl (Nat.le_of_ble_eq_true rfl) (oc (R28).oneCell (oc (R27).oneCell on))) ?_))))
      rintro w26 ⟨-, b26, c26⟩
      have H14 : Hold w F w26 [rB g 172 ([v, .int .i64 ((gdB s j).2.pt : Int), .int .i64 ((gdB s j).2.mix), .int .i64 ((gdB s j).2.size)]), rR u8 5 v ((gdB s j).2.code), rB g2 49 ([a, c]), rB g3 49 ([a, c]), rR u8 5 a ((gdB s j).1.1), rR kW 112 c ((gdB s j).1.2)] := Hold.setB H13 2 rfl b26 c26 rfl
      clear H13
      clear b26 c26
      refine re (rt ?_)
      have b29 : B w26 g2 49 ([a, c]) := Hold.blk H14 2 rfl
      have H15 : Hold w F w26 [rB g 172 ([v, .int .i64 ((gdB s j).2.pt : Int), .int .i64 ((gdB s j).2.mix), .int .i64 ((gdB s j).2.size)]), rR u8 5 v ((gdB s j).2.code), rR u8 5 a ((gdB s j).1.1), rR kW 112 c ((gdB s j).1.2)] := (show Hold w F w26 ([rB g 172 ([v, .int .i64 ((gdB s j).2.pt : Int), .int .i64 ((gdB s j).2.mix), .int .i64 ((gdB s j).2.size)]), rR u8 5 v ((gdB s j).2.code), rR u8 5 a ((gdB s j).1.1), rR kW 112 c ((gdB s j).1.2)] ++ [rB g2 49 ([a, c]), rB g3 49 ([a, c])]) from Hold.re H14 [0, 1, 4, 5, 2, 3] (by kernel_rfl) (by rfl)).drop
      clear H14
      exact finc  (cs := [a, c]) Try.results158 Try.underlying49 rfl ti49 y2 b29 rfl  ⟨_, _, rfl, H15⟩
end Go.Proofs.Ytgpcanjmgdmdhaa
