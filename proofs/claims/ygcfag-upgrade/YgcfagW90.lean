/-
  WALKS: valid.Walk's Step on a root struct; valid.Validate.
-/
import Derived.Test.YgcfagW89
namespace Go.Proofs.Ygcfag
open Go.RowKit
set_option linter.unusedVariables false
set_option linter.unusedSimpArgs false

set_option maxHeartbeats 1000000 in
theorem follow1_any (g d : Nat) (dep : Int) (w : World) (hd : d ≤ 8) :
    Calls Fagg.prog 210 #[.pointer (some ⟨g, 0, none⟩), ptV (rootPt d), .int .u8 dep] w fun e w' => e = .returned (.tuple #[]) ∧ Below w.heap.size w w' := by
  have HP := hide (fun x W => push0_any g x dep W)
  have hk : (rootPt d).kind = 1 := rfl
  have hp : (rootPt d).ptrs = 0 := rfl
  unfold ptV
  generalize rootPt d = q at *
  go_enter Fagg.func210, Fagg.ntmps210
  go_wp2_with (go_at_call 208; with_reducible refine (unhide HP _ _).mono ?_; rintro e w1 ⟨rfl, hw1⟩; rw [hw1]; clear hw1)
  exact bodyPost_end (v := .tuple #[]) (by simp [results, Fagg.results210, go_sem]) rfl ⟨rfl, (Below.refl _ _).alloc (Nat.le_refl _) _⟩

structure P6 (w : World) (G : Nat) (q : Pt) : Prop where
  c0 : w.cell? ⟨G, 0, none⟩ = some (.int .u8 q.kind)
  c1 : w.cell? ⟨G, 1, none⟩ = some (.int .u16 q.at_)
  c2 : w.cell? ⟨G, 2, none⟩ = some (.int .u8 q.data)
  c3 : w.cell? ⟨G, 3, none⟩ = some (.int .u8 q.ptrs)
  c4 : w.cell? ⟨G, 4, none⟩ = some (.int .u8 q.code)
  c5 : w.cell? ⟨G, 5, none⟩ = some (.int .u16 q.count)

theorem world6 {W w1 : World} (hb : Below W.heap.size W w1) (q : Pt) (w2 : World) (h : w2 = w1.alloc (Obj.cells #[Value.int IntKind.u8 q.kind, Value.int IntKind.u16 q.at_, Value.int IntKind.u8 q.data, Value.int IntKind.u8 q.ptrs, Value.int IntKind.u8 q.code, Value.int IntKind.u16 q.count] 58)) :
    Below W.heap.size W w2 ∧ W.heap.size ≤ w1.heap.size ∧ w1.heap.size < w2.heap.size ∧ P6 w2 w1.heap.size q := by
  have hs := hb.size
  subst h
  exact ⟨hb.alloc hs _, hs, by simp, ⟨by simp, by simp, by simp, by simp, by simp, by simp⟩⟩

theorem held3 {g : Nat} {w u : World} {x y z : Value} (hg : g < w.heap.size) (h6 : w.cell? ⟨g, 516, none⟩ = some x) (h4 : w.cell? ⟨g, 4, none⟩ = some y) (h5 : w.cell? ⟨g, 5, none⟩ = some z) (h : Below w.heap.size w u) : Below w.heap.size w u ∧ u.cell? ⟨g, 516, none⟩ = some x ∧ u.cell? ⟨g, 4, none⟩ = some y ∧ u.cell? ⟨g, 5, none⟩ = some z :=
  ⟨h, (h.cell (p := ⟨g, 516, none⟩) hg).trans h6, (h.cell (p := ⟨g, 4, none⟩) hg).trans h4, (h.cell (p := ⟨g, 5, none⟩) hg).trans h5⟩

set_option maxHeartbeats 1000000 in
set_option maxRecDepth 100000 in
theorem step1_any (g : Nat) (a : Option Addr) (n c d : Nat) (xs : List Int) (w : World) (hs : Sl .u64 w a xs) (hn : xs.length = n) (hw : Wds xs) (hd : d ≤ 8) (hl : n = d + 1) (hx : xs.getD 0 0 = (rootW d : Int)) (hsep : ∀ W, KeptAt g (fun p => p = 0 ∨ p = 516) w W → Sl .u64 W a xs)
    (h0 : w.cell? ⟨g, 0, none⟩ = some (.int .u64 1)) (h4 : w.cell? ⟨g, 4, none⟩ = some (.int .u16 0)) (h5 : w.cell? ⟨g, 5, none⟩ = some (.int .u8 0)) (h6 : w.cell? ⟨g, 516, none⟩ = some (.int .u16 1)) (f0 : w.frozen? ⟨g, 0, none⟩ = false) (f6 : w.frozen? ⟨g, 516, none⟩ = false) :
    Calls Fagg.prog 171 #[.pointer (some ⟨g, 0, none⟩), .slice a n c] w fun e w' => e = .returned (.bool true) ∧ KeptAt g (fun p => p = 0 ∨ p = 516) w w' ∧ w'.cell? ⟨g, 516, none⟩ = some (.int .u16 0) ∧ ∃ x : Int, w'.cell? ⟨g, 0, none⟩ = some (.int .u64 x) := by
  have hgw := World.block_lt_of_cell? w _ h0
  have HN := hide hn
  have HL := hide hl
  have HX := hide hx
  clear hn hl hx
  go_enter Fagg.func171, Fagg.ntmps171
  refine wp_seq_k (fun K0 hK0 => ?_)
  have HC0 := hide hK0
  clear hK0
  go_wp2_with fail
  refine unhide HC0 _ _ ?_
  clear HC0
  refine wp_seq_k (fun K0 hK0 => ?_)
  have HC0 := hide hK0
  clear hK0
  go_wp2_with fail
  refine unhide HC0 _ _ ?_
  clear HC0
  refine wp_seq_k (fun K0 hK0 => ?_)
  have HC0 := hide hK0
  clear hK0
  go_wp2_with fail
  refine unhide HC0 _ _ ?_
  clear HC0
  refine wp_seq_k (fun K0 hK0 => ?_)
  have HC0 := hide hK0
  clear hK0
  go_wp2_with fail
  refine unhide HC0 _ _ ?_
  clear HC0
  refine gen_world _ (fun w' => KeptAt g (· = 516) w w' ∧ w'.cell? ⟨g, 516, none⟩ = some (.int .u16 0)) ⟨KeptAt.set (ok := (· = 516)) (KeptAt.of_below (Below.refl _ _)) 516 rfl _, cell_same _ _ _ _ _ h6⟩ ?_
  rintro w2 ⟨hk2, e6⟩
  have e4 := (hk2.cell g 4 hgw (.inr (by omega))).trans h4
  have e5 := (hk2.cell g 5 hgw (.inr (by omega))).trans h5
  have hs2 := hk2.size
  have HK2 := hide hk2
  clear hk2
  refine wp_seq_k (fun K0 hK0 => ?_)
  have HC0 := hide hK0
  clear hK0
  have hg2 : g < w2.heap.size := by omega
  go_region_held2 (fun w' => Below w2.heap.size w2 w' ∧ w'.cell? ⟨g, 516, none⟩ = some (.int .u16 0) ∧ w'.cell? ⟨g, 4, none⟩ = some (.int .u16 0) ∧ w'.cell? ⟨g, 5, none⟩ = some (.int .u8 0)) ((refine held3 hg2 e6 e4 e5 ?_; first | exact (Below.refl _ _).drew | exact ((Below.refl _ _).alloc (Nat.le_refl _) _).drew | exact ((((Below.refl _ _).alloc (Nat.le_refl _) _).setCell (Nat.le_refl _) _).setCell (Nat.le_refl _) _).drew)) (fail)
  refine unhide HC0 _ _ ?_
  clear HC0
  refine gen_world _ (fun w' => Below w2.heap.size w2 w' ∧ w2.heap.size < w'.heap.size ∧ w'.cell? ⟨w2.heap.size, 0, none⟩ = some (.int .u16 0) ∧ w'.cell? ⟨w2.heap.size, 1, none⟩ = some (.int .u8 0)) ⟨((Below.refl _ _).alloc (Nat.le_refl _) _).drew, by simp, by simp, by simp⟩ ?_
  rintro w3 ⟨hb3, hs3, s0, s1⟩
  have HK3 := hide ((unhide HK2).trans (KeptAt.of_below hb3))
  have HE3 := hide ((hb3.cell (p := ⟨g, 516, none⟩) hg2).trans e6)
  have hg3 : g < w3.heap.size := by omega
  have HRS := hide (resolve0_any a n c d xs w3 (hsep w3 ((unhide HK3).mono fun p h => .inr h)) (unhide HN) hw hd (unhide HL) (unhide HX))
  simp only [ptRes, ptV] at HRS
  have HCL := hide (fun W h1 h2 => claim1_any g d W hd h1 h2)
  have HFO := hide (fun W => follow1_any g d 1 W hd)
  have HPA := hide (fun W (hW : KeptAt g (fun p => p = 0 ∨ p = 516) w W) => padded_any a n c xs (rootPt d) W (hsep W hW) (unhide HN) hw (by have := unhide HL; omega) (rootPt_good d hd) (by have := unhide HL; simp [firstOf, wordsOf, rootPt]; split <;> omega))
  have hpd : paddedOf xs (rootPt d) = true := by simp [paddedOf, bytesOf, rootPt]
  rw [hpd] at HPA
  have hk1 : ((rootPt d).kind == 0) = false := rfl
  simp only [ptV] at HCL HFO HPA
  generalize rootPt d = q at *
  generalize w2.heap.size = S at *
  have HSEP := hide hsep
  clear hs hw hsep hpd hb3 e4 e5 e6 h4 h5 h6 HK2
  refine wp_seq_k (fun K0 hK0 => ?_)
  have HC0 := hide hK0
  clear hK0
  go_wp2_with (go_at_call 136; with_reducible refine (unhide HRS).mono ?_; rintro e w4 ⟨rfl, hb4⟩; have HB4 := hide hb4; clear hb4)
  refine unhide HC0 _ _ ?_
  clear HC0
  refine gen_world _ (fun w' => Below w3.heap.size w3 w' ∧ w3.heap.size ≤ w4.heap.size ∧ w4.heap.size < w'.heap.size ∧ P6 w' w4.heap.size q) (world6 (unhide HB4) q _ rfl) ?_
  rintro w5 ⟨hb5, hz5, hy5, hp6⟩
  obtain ⟨m0, m1, m2, m3, m4, m5⟩ := id hp6
  have t1 := (hb5.cell (p := ⟨S, 1, none⟩) hs3).trans s1
  have HK5 := hide ((unhide HK3).trans (KeptAt.of_below hb5))
  have hkk := (unhide HK5)
  have HE5 := hide ((hb5.cell (p := ⟨g, 516, none⟩) hg3).trans (unhide HE3))
  have q0 : w5.cell? ⟨g, 0, none⟩ = some (.int .u64 1) := (hkk.cell g 0 hgw (.inr (by omega))).trans h0
  have q1 : w5.frozen? ⟨g, 0, none⟩ = false := (hkk.frozen g 0 hgw).trans f0
  clear HB4 hb5 hkk
  generalize w4.heap.size = P at *
  have hPg : P ≠ g := by omega
  have hSg : S ≠ g := by omega
  have hS5 : S < w5.heap.size := by omega
  have hg5 : g < w5.heap.size := by omega
  refine wp_seq_k (fun K0 hK0 => ?_)
  have HC0 := hide hK0
  clear hK0
  go_wp2_with fail
  refine unhide HC0 _ _ ?_
  clear HC0
  refine wp_seq_k (fun K0 hK0 => ?_)
  have HC0 := hide hK0
  clear hK0
  go_wp2_with (first | (go_at_call 209; with_reducible refine (unhide HCL _ q0 q1).mono ?_; rintro e w6 ⟨rfl, hk6, x6, hx6⟩; have HX6 := hide hx6; clear hx6; have r0 := (hk6.cell P 0 hy5 (.inl hPg)).trans m0; have r1 := (hk6.cell P 1 hy5 (.inl hPg)).trans m1; have r2 := (hk6.cell P 2 hy5 (.inl hPg)).trans m2; have r3 := (hk6.cell P 3 hy5 (.inl hPg)).trans m3; have r4 := (hk6.cell P 4 hy5 (.inl hPg)).trans m4; have r5 := (hk6.cell P 5 hy5 (.inl hPg)).trans m5; have t2 := (hk6.cell S 1 hS5 (.inl hSg)).trans t1; have HK6 := hide (show KeptAt g (fun p => p = 0 ∨ p = 516) w w6 from KeptAt.trans (KeptAt.mono (unhide HK5) (fun p h => Or.inr h)) (KeptAt.mono hk6 (fun p h => Or.inl h))); have HC6 := hide (fun p (hp : p ≠ 0) => hk6.cell g p hg5 (.inr hp)); have hs6 := hk6.size; clear hk6 m0 m1 m2 m3 m4 m5) | (go_at_call 78; with_reducible refine (unhide HPA _ (unhide HK6)).mono ?_; rintro e w7 ⟨rfl, hb7⟩; have o0 := (hb7.cell (p := ⟨P, 0, none⟩) (by show P < _; omega)).trans r0; have o1 := (hb7.cell (p := ⟨P, 1, none⟩) (by show P < _; omega)).trans r1; have o2 := (hb7.cell (p := ⟨P, 2, none⟩) (by show P < _; omega)).trans r2; have o3 := (hb7.cell (p := ⟨P, 3, none⟩) (by show P < _; omega)).trans r3; have o4 := (hb7.cell (p := ⟨P, 4, none⟩) (by show P < _; omega)).trans r4; have o5 := (hb7.cell (p := ⟨P, 5, none⟩) (by show P < _; omega)).trans r5; have t3 := (hb7.cell (p := ⟨S, 1, none⟩) (by show S < _; omega)).trans t2; have HK7 := hide ((unhide HK6).trans (KeptAt.of_below hb7)); have HB7 := hide hb7; clear hb7 r0 r1 r2 r3 r4 r5))
  refine unhide HC0 _ _ ?_
  clear HC0
  have hs7 := (unhide HB7).size
  refine wp_seq_k (fun K0 hK0 => ?_)
  have HC0 := hide hK0
  clear hK0
  go_wp2_with (go_at_call 210; with_reducible refine (unhide HFO _).mono ?_; rintro e w8 ⟨rfl, hb8⟩; have HB8 := hide hb8; clear hb8)
  refine unhide HC0 _ _ ?_
  clear HC0
  go_wp2_with fail
  go_ret
  refine ⟨rfl, (unhide HK7).trans (KeptAt.of_below (unhide HB8)), ?_, x6, ((unhide HB8).cell (p := ⟨g, 0, none⟩) (by show g < _; omega)).trans (((unhide HB7).cell (p := ⟨g, 0, none⟩) (by show g < _; omega)).trans (unhide HX6))⟩
  have y8 := (unhide HB8).cell (p := ⟨g, 516, none⟩) (by show g < _; omega)
  have y7 := (unhide HB7).cell (p := ⟨g, 516, none⟩) (by show g < _; omega)
  exact y8.trans (y7.trans ((unhide HC6 516 (by omega)).trans (unhide HE5)))

/-- A walk lies in block g as Start gave it. -/
structure WalkAt (w : World) (g : Nat) (cs : List Value) : Prop where
  cell : ∀ p, p < 517 → w.cell? ⟨g, p, none⟩ = cs[p]?
  froz : ∀ p, p < 517 → w.frozen? ⟨g, p, none⟩ = false

theorem list4 : (Fagg.prog.info? 132).map (fun i => i.size) = some 4 := by kernel_rfl
end Go.Proofs.Ygcfag
