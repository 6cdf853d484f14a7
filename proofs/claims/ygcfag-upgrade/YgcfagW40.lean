/-
  WALKS: seg.double.
-/
import Derived.Test.YgcfagW37
namespace Go.Proofs.Ygcfag
open Go.RowKit
set_option linter.unusedVariables false
set_option linter.unusedSimpArgs false

def spP (s : Int) (q : Pt) : Value := .agg #[.int .u8 s, .int .u8 q.kind, .int .u16 q.at_, .int .u8 q.data, .int .u8 q.ptrs, .int .u8 q.code, .int .u16 q.count]
def padV (s i k : Int) : Value := .agg #[.int .u8 s, .int .u16 i, .int .u8 k]
def spRes : Option Sp → Value
  | none => .tuple #[spP 0 Pt.nil, padV 0 0 0, .bool false]
  | some r => .tuple #[spP r.seg r.pt, padV r.pseg r.pat r.pwords, .bool true]

structure Z7 (w : World) (G : Nat) : Prop where
  c0 : w.cell? ⟨G, 0, none⟩ = some (.int .u8 0)
  c1 : w.cell? ⟨G, 1, none⟩ = some (.int .u8 0)
  c2 : w.cell? ⟨G, 2, none⟩ = some (.int .u16 0)
  c3 : w.cell? ⟨G, 3, none⟩ = some (.int .u8 0)
  c4 : w.cell? ⟨G, 4, none⟩ = some (.int .u8 0)
  c5 : w.cell? ⟨G, 5, none⟩ = some (.int .u8 0)
  c6 : w.cell? ⟨G, 6, none⟩ = some (.int .u16 0)
  f0 : w.frozen? ⟨G, 0, none⟩ = false
  f1 : w.frozen? ⟨G, 1, none⟩ = false
  f2 : w.frozen? ⟨G, 2, none⟩ = false
  f3 : w.frozen? ⟨G, 3, none⟩ = false
  f4 : w.frozen? ⟨G, 4, none⟩ = false
  f5 : w.frozen? ⟨G, 5, none⟩ = false
  f6 : w.frozen? ⟨G, 6, none⟩ = false

structure Z3 (w : World) (G : Nat) : Prop where
  c0 : w.cell? ⟨G, 0, none⟩ = some (.int .u8 0)
  c1 : w.cell? ⟨G, 1, none⟩ = some (.int .u16 0)
  c2 : w.cell? ⟨G, 2, none⟩ = some (.int .u8 0)
  f0 : w.frozen? ⟨G, 0, none⟩ = false
  f1 : w.frozen? ⟨G, 1, none⟩ = false
  f2 : w.frozen? ⟨G, 2, none⟩ = false

theorem Z7.below {w w' : World} {G : Nat} (h : Z7 w G) (hb : Below w.heap.size w w') : Z7 w' G := by
  have hg := World.block_lt_of_cell? w _ h.c0
  exact ⟨(hb.cell (p := ⟨G, 0, none⟩) hg).trans h.c0, (hb.cell (p := ⟨G, 1, none⟩) hg).trans h.c1, (hb.cell (p := ⟨G, 2, none⟩) hg).trans h.c2, (hb.cell (p := ⟨G, 3, none⟩) hg).trans h.c3, (hb.cell (p := ⟨G, 4, none⟩) hg).trans h.c4, (hb.cell (p := ⟨G, 5, none⟩) hg).trans h.c5, (hb.cell (p := ⟨G, 6, none⟩) hg).trans h.c6, (hb.frozen (p := ⟨G, 0, none⟩) hg).trans h.f0, (hb.frozen (p := ⟨G, 1, none⟩) hg).trans h.f1, (hb.frozen (p := ⟨G, 2, none⟩) hg).trans h.f2, (hb.frozen (p := ⟨G, 3, none⟩) hg).trans h.f3, (hb.frozen (p := ⟨G, 4, none⟩) hg).trans h.f4, (hb.frozen (p := ⟨G, 5, none⟩) hg).trans h.f5, (hb.frozen (p := ⟨G, 6, none⟩) hg).trans h.f6⟩
theorem Z3.below {w w' : World} {G : Nat} (h : Z3 w G) (hb : Below w.heap.size w w') : Z3 w' G := by
  have hg := World.block_lt_of_cell? w _ h.c0
  exact ⟨(hb.cell (p := ⟨G, 0, none⟩) hg).trans h.c0, (hb.cell (p := ⟨G, 1, none⟩) hg).trans h.c1, (hb.cell (p := ⟨G, 2, none⟩) hg).trans h.c2, (hb.frozen (p := ⟨G, 0, none⟩) hg).trans h.f0, (hb.frozen (p := ⟨G, 1, none⟩) hg).trans h.f1, (hb.frozen (p := ⟨G, 2, none⟩) hg).trans h.f2⟩

theorem two_made {w w1 : World} (h : w1 = (w.alloc (Obj.cells #[Value.int IntKind.u8 0, Value.int IntKind.u8 0, Value.int IntKind.u16 0, Value.int IntKind.u8 0, Value.int IntKind.u8 0, Value.int IntKind.u8 0, Value.int IntKind.u16 0] 60)).alloc (Obj.cells #[Value.int IntKind.u8 0, Value.int IntKind.u16 0, Value.int IntKind.u8 0] 62)) : Below w.heap.size w w1 ∧ Z7 w1 w.heap.size ∧ Z3 w1 (w.heap.size + 1) := by
  subst h
  exact ⟨(((Below.refl _ _).alloc (Nat.le_refl _) _).alloc (by simp) _), ⟨by simp, by simp, by simp, by simp, by simp, by simp, by simp, by simp, by simp, by simp, by simp, by simp, by simp, by simp⟩, ⟨by simp, by simp, by simp, by simp, by simp, by simp⟩⟩

theorem bel_drewN {B : Nat} {a w : World} (h : Below B a w) (n : Nat) : Below B a (w.drewN n) := ⟨h.os, h.tape, h.output, h.size, h.block⟩

theorem below_set73 {B b1 b2 : Nat} {u w : World} (h : Below B u w) (h1 : B ≤ b1) (h2 : B ≤ b2) (v0 v1 v2 v3 v4 v5 v6 x0 x1 x2 : Value) : Below B u ((((((((((w.setCell ⟨b1, 0, none⟩ v0).setCell ⟨b1, 1, none⟩ v1).setCell ⟨b1, 2, none⟩ v2).setCell ⟨b1, 3, none⟩ v3).setCell ⟨b1, 4, none⟩ v4).setCell ⟨b1, 5, none⟩ v5).setCell ⟨b1, 6, none⟩ v6).setCell ⟨b2, 0, none⟩ x0).setCell ⟨b2, 1, none⟩ x1).setCell ⟨b2, 2, none⟩ x2) :=
  (((((((((h.setCell h1 _).setCell h1 _).setCell h1 _).setCell h1 _).setCell h1 _).setCell h1 _).setCell h1 _).setCell h2 _).setCell h2 _).setCell h2 _

theorem farOf_facts {ms : List (List Int)} {x k : Int} {t pad : Nat} (h : farOf ms x k = some (t, pad)) (hx : 0 ≤ x) : t < ms.length ∧ (pad : Int) + k ≤ ((ms.getD t []).length : Int) := by
  unfold farOf at h
  split at h
  · cases h
  · rename_i hn
    simp only [Option.some.injEq, Prod.mk.injEq] at h
    obtain ⟨h1, h2⟩ := h
    subst h1
    omega

/-- A segment's words, in memory. -/
theorem SegsAt.word {w : World} {b off : Nat} {ms : List (List Int)} (h : ∀ i, i < ms.length → ∃ ai ci, w.cell? ⟨b, off + i, none⟩ = some (.slice ai (ms.getD i []).length ci) ∧ (ms.getD i []).length ≤ ci ∧ Sl .u64 w ai (ms.getD i [])) (t : Nat) (ht : t < ms.length) (hl : 0 < (ms.getD t []).length) :
    ∃ b2 o2 c2, w.cell? ⟨b, off + t, none⟩ = some (.slice (some ⟨b2, o2, none⟩) (ms.getD t []).length c2) ∧ b2 < w.heap.size ∧ ∀ j, j < (ms.getD t []).length → w.cell? ⟨b2, o2 + j, none⟩ = some (.int .u64 (wordOf ms t j)) := by
  obtain ⟨ai, ci, h1, _, h3⟩ := h t ht
  obtain ⟨b2, o2, rfl, h4⟩ := h3.at (i := 0) hl
  exact ⟨b2, o2, ci, h1, World.block_lt_of_cell? w _ (h4 0 hl), h4⟩

set_option maxHeartbeats 4000000 in
set_option maxRecDepth 100000 in
theorem double_in (b off n c t pad L c2 b2 o2 : Nat) (ms : List (List Int)) (x F T : Int) (w : World) (hs : SegsAt w (some ⟨b, off, none⟩) ms) (hn : ms.length = n) (hn1 : 1 ≤ n) (hn8 : n ≤ 8) (hl : ∀ i, (ms.getD i []).length ≤ 256) (hw : ∀ i, Wds (ms.getD i [])) (hx0 : 0 ≤ x) (hx1 : x < 18446744073709551616)
    (hf : farOf ms x 2 = some (t, pad)) (htn : t < n) (hpl : pad + 2 ≤ L) (hL256 : L ≤ 256) (hbw : b < w.heap.size) (hbw2 : b2 < w.heap.size) (hc1 : w.cell? ⟨b, off + t, none⟩ = some (.slice (some ⟨b2, o2, none⟩) L c2)) (hc2 : w.cell? ⟨b2, o2 + pad, none⟩ = some (.int .u64 F)) (hc3 : w.cell? ⟨b2, o2 + (pad + 1), none⟩ = some (.int .u64 T)) (hF0 : 0 ≤ F ∧ F < 18446744073709551616) (hT0 : 0 ≤ T ∧ T < 18446744073709551616)
    (HD : Hid (doubleOf ms x = if F % 8 ≠ 2 ∨ T = 0 ∨ T / 4 % 1073741824 ≠ 0 then none else match farOf ms F 0 with
      | none => none
      | some (o, f) => match readOf (ms.getD o []) T (f : Int) (lowI o) with
        | none => none
        | some p => some ⟨(o : Int), p, (t : Int), (pad : Int), 2⟩)) :
    Calls Fagg.prog 70 #[.slice (some ⟨b, off, none⟩) n c, .int .u64 x] w fun e w' => e = .returned (spRes (doubleOf ms x)) ∧ Below w.heap.size w w' := by
  have HTF := hide (fun W (hW : Below w.heap.size w W) => takeFar_any (some ⟨b, off, none⟩) n c ms x 2 W (hs.below hW) hn hn1 hn8 hl hx0 hx1 (by omega))
  rw [hf] at HTF
  simp only [farV] at HTF
  have HTF2 := hide (fun W (hW : Below w.heap.size w W) => takeFar_any (some ⟨b, off, none⟩) n c ms F 0 W (hs.below hW) hn hn1 hn8 hl hF0.1 hF0.2 (by omega))
  have HT1 := hide (fun W => take_0_3 F W hF0.1 hF0.2)
  have HT2 := hide (fun W => take_2_30 T W hT0.1 hT0.2)
  have hwr : IntKind.u16.wrap ((pad : Int) + 1) = (pad : Int) + 1 := by rw [IntKind.wrap_u16]; omega
  have HSEG := hide hs
  have HN := hide hn
  have HLL := hide hl
  have HWW := hide hw
  clear hf hs hn hl hw
  by_cases h8 : F % 8 = 2
  · have h8' : (F % 8 != 2) = false := by simp [h8]
    by_cases hT : T = 0
    · have hT' : (T == 0) = true := by simp [hT]
      have HF := hide (show doubleOf ms x = none by rw [unhide HD, if_pos (.inr (.inl hT))])
      clear hT HD
      go_enter Fagg.func70, Fagg.ntmps70
      go_wp2_with (first | (go_at_call 71; first | (with_reducible refine (unhide HTF _ (((Below.refl _ _).alloc (Nat.le_refl _) _).alloc (by simp) _)).mono ?_; rintro e w1 ⟨rfl, hw1⟩; obtain ⟨hL, hZ⟩ := two_made hw1; clear hw1; have HZ := hide hZ; obtain ⟨⟨a0, a1, a2, a3, a4, a5, a6, e0, e1, e2, e3, e4, e5, e6⟩, ⟨z0, z1, z2, y0, y1, y2⟩⟩ := hZ; have d1 := (hL.cell (p := ⟨b, off + t, none⟩) hbw).trans hc1; have d2 := (hL.cell (p := ⟨b2, o2 + pad, none⟩) hbw2).trans hc2; have d3 := (hL.cell (p := ⟨b2, o2 + (pad + 1), none⟩) hbw2).trans hc3) | (with_reducible refine (unhide HTF2 _ (bel_drewN hL _)).mono ?_; rintro e w2 ⟨rfl, hw2⟩; subst hw2)) | (go_at_call 67; first | (with_reducible refine (unhide HT1 _).mono ?_; rintro e w2 ⟨rfl, hw2⟩; subst hw2) | (with_reducible refine (unhide HT2 _).mono ?_; rintro e w2 ⟨rfl, hw2⟩; subst hw2)))
      go_quiet (fail)
      go_wp2_with (first | (go_at_call 71; first | (with_reducible refine (unhide HTF _ (((Below.refl _ _).alloc (Nat.le_refl _) _).alloc (by simp) _)).mono ?_; rintro e w1 ⟨rfl, hw1⟩; obtain ⟨hL, hZ⟩ := two_made hw1; clear hw1; have HZ := hide hZ; obtain ⟨⟨a0, a1, a2, a3, a4, a5, a6, e0, e1, e2, e3, e4, e5, e6⟩, ⟨z0, z1, z2, y0, y1, y2⟩⟩ := hZ; have d1 := (hL.cell (p := ⟨b, off + t, none⟩) hbw).trans hc1; have d2 := (hL.cell (p := ⟨b2, o2 + pad, none⟩) hbw2).trans hc2; have d3 := (hL.cell (p := ⟨b2, o2 + (pad + 1), none⟩) hbw2).trans hc3) | (with_reducible refine (unhide HTF2 _ (bel_drewN hL _)).mono ?_; rintro e w2 ⟨rfl, hw2⟩; subst hw2)) | (go_at_call 67; first | (with_reducible refine (unhide HT1 _).mono ?_; rintro e w2 ⟨rfl, hw2⟩; subst hw2) | (with_reducible refine (unhide HT2 _).mono ?_; rintro e w2 ⟨rfl, hw2⟩; subst hw2)))
      exact bodyPost_ret (v := spRes none) (by simp [results, Fagg.results70, go_sem, spRes, spP, padV, Sp.nil, Pt.nil, a0, a1, a2, a3, a4, a5, a6, e0, e1, e2, e3, e4, e5, e6, z0, z1, z2, y0, y1, y2]) rfl ⟨by rw [unhide HF], below_set73 (bel_drewN hL _) (by omega) (by omega) _ _ _ _ _ _ _ _ _ _⟩
    · have hT' : (T == 0) = false := by simp [hT]
      by_cases h4 : T / 4 % 1073741824 = 0
      · have h4' : (T / 4 % 1073741824 != 0) = false := by simp [h4]
        replace HD := hide (show doubleOf ms x = _ by rw [unhide HD, if_neg (by simp [h8, hT, h4])])
        cases hf2 : farOf ms F 0 with
        | none =>
          rw [hf2] at HTF2 HD
          simp only [farV] at HTF2
          have HF := HD
          clear HD hf2
          go_enter Fagg.func70, Fagg.ntmps70
          go_wp2_with (first | (go_at_call 71; first | (with_reducible refine (unhide HTF _ (((Below.refl _ _).alloc (Nat.le_refl _) _).alloc (by simp) _)).mono ?_; rintro e w1 ⟨rfl, hw1⟩; obtain ⟨hL, hZ⟩ := two_made hw1; clear hw1; have HZ := hide hZ; obtain ⟨⟨a0, a1, a2, a3, a4, a5, a6, e0, e1, e2, e3, e4, e5, e6⟩, ⟨z0, z1, z2, y0, y1, y2⟩⟩ := hZ; have d1 := (hL.cell (p := ⟨b, off + t, none⟩) hbw).trans hc1; have d2 := (hL.cell (p := ⟨b2, o2 + pad, none⟩) hbw2).trans hc2; have d3 := (hL.cell (p := ⟨b2, o2 + (pad + 1), none⟩) hbw2).trans hc3) | (with_reducible refine (unhide HTF2 _ (bel_drewN hL _)).mono ?_; rintro e w2 ⟨rfl, hw2⟩; subst hw2)) | (go_at_call 67; first | (with_reducible refine (unhide HT1 _).mono ?_; rintro e w2 ⟨rfl, hw2⟩; subst hw2) | (with_reducible refine (unhide HT2 _).mono ?_; rintro e w2 ⟨rfl, hw2⟩; subst hw2)))
          go_quiet (fail)
          go_wp2_with (first | (go_at_call 71; first | (with_reducible refine (unhide HTF _ (((Below.refl _ _).alloc (Nat.le_refl _) _).alloc (by simp) _)).mono ?_; rintro e w1 ⟨rfl, hw1⟩; obtain ⟨hL, hZ⟩ := two_made hw1; clear hw1; have HZ := hide hZ; obtain ⟨⟨a0, a1, a2, a3, a4, a5, a6, e0, e1, e2, e3, e4, e5, e6⟩, ⟨z0, z1, z2, y0, y1, y2⟩⟩ := hZ; have d1 := (hL.cell (p := ⟨b, off + t, none⟩) hbw).trans hc1; have d2 := (hL.cell (p := ⟨b2, o2 + pad, none⟩) hbw2).trans hc2; have d3 := (hL.cell (p := ⟨b2, o2 + (pad + 1), none⟩) hbw2).trans hc3) | (with_reducible refine (unhide HTF2 _ (bel_drewN hL _)).mono ?_; rintro e w2 ⟨rfl, hw2⟩; subst hw2)) | (go_at_call 67; first | (with_reducible refine (unhide HT1 _).mono ?_; rintro e w2 ⟨rfl, hw2⟩; subst hw2) | (with_reducible refine (unhide HT2 _).mono ?_; rintro e w2 ⟨rfl, hw2⟩; subst hw2)))
          exact bodyPost_ret (v := spRes none) (by simp [results, Fagg.results70, go_sem, spRes, spP, padV, Sp.nil, Pt.nil, a0, a1, a2, a3, a4, a5, a6, e0, e1, e2, e3, e4, e5, e6, z0, z1, z2, y0, y1, y2]) rfl ⟨by rw [unhide HF], below_set73 (bel_drewN hL _) (by omega) (by omega) _ _ _ _ _ _ _ _ _ _⟩
        | some r =>
          obtain ⟨o, f⟩ := r
          obtain ⟨hon, hfl⟩ := farOf_facts hf2 hF0.1
          have hln := unhide HLL o
          have hnn := unhide HN
          rw [hf2] at HTF2 HD
          simp only [farV] at HTF2
          obtain ⟨_, _, he, _, hcell⟩ := (unhide HSEG).get (by omega)
          simp at he
          obtain ⟨rfl, rfl⟩ := he
          obtain ⟨ao, co, hco, _, hso⟩ := hcell o hon
          have HRW := hide (fun W (hW : Below w.heap.size w W) => resolveWord_any ao (ms.getD o []).length co (ms.getD o []) T (f : Int) (lowI o) W (hso.below hW) rfl (unhide HWW o) (unhide HLL o) hT0.1 hT0.2 (by omega) (by unfold lowI; split <;> omega))
          have HLOW := hide (fun W => low_s (o : Int) W (by omega) (by omega))
          have hlo : (if (o : Int) = 0 then (1 : Int) else 0) = lowI o := by unfold lowI; split <;> split <;> omega
          rw [hlo] at HLOW
          have HSO := hide hso
          have HCL := hide hcell
          clear hf2 hso hcell hlo
          generalize (ms.getD o []).length = Lo at *
          cases hr : readOf (ms.getD o []) T (f : Int) (lowI o) with
          | none =>
            rw [hr] at HRW
            have HF := hide (show doubleOf ms x = none by rw [unhide HD]; simp only [hr])
            clear HD hr
            go_enter Fagg.func70, Fagg.ntmps70
            go_wp2_with (first | (go_at_call 71; first | (with_reducible refine (unhide HTF _ (((Below.refl _ _).alloc (Nat.le_refl _) _).alloc (by simp) _)).mono ?_; rintro e w1 ⟨rfl, hw1⟩; obtain ⟨hL, hZ⟩ := two_made hw1; clear hw1; have HZ := hide hZ; obtain ⟨⟨a0, a1, a2, a3, a4, a5, a6, e0, e1, e2, e3, e4, e5, e6⟩, ⟨z0, z1, z2, y0, y1, y2⟩⟩ := hZ; have d1 := (hL.cell (p := ⟨b, off + t, none⟩) hbw).trans hc1; have d2 := (hL.cell (p := ⟨b2, o2 + pad, none⟩) hbw2).trans hc2; have d3 := (hL.cell (p := ⟨b2, o2 + (pad + 1), none⟩) hbw2).trans hc3) | (with_reducible refine (unhide HTF2 _ (bel_drewN hL _)).mono ?_; rintro e w2 ⟨rfl, hw2⟩; subst hw2)) | (go_at_call 67; first | (with_reducible refine (unhide HT1 _).mono ?_; rintro e w2 ⟨rfl, hw2⟩; subst hw2) | (with_reducible refine (unhide HT2 _).mono ?_; rintro e w2 ⟨rfl, hw2⟩; subst hw2)))
            go_quiet (fail)
            go_wp2_with (first | (go_at_call 71; first | (with_reducible refine (unhide HTF _ (((Below.refl _ _).alloc (Nat.le_refl _) _).alloc (by simp) _)).mono ?_; rintro e w1 ⟨rfl, hw1⟩; obtain ⟨hL, hZ⟩ := two_made hw1; clear hw1; have HZ := hide hZ; obtain ⟨⟨a0, a1, a2, a3, a4, a5, a6, e0, e1, e2, e3, e4, e5, e6⟩, ⟨z0, z1, z2, y0, y1, y2⟩⟩ := hZ; have d1 := (hL.cell (p := ⟨b, off + t, none⟩) hbw).trans hc1; have d2 := (hL.cell (p := ⟨b2, o2 + pad, none⟩) hbw2).trans hc2; have d3 := (hL.cell (p := ⟨b2, o2 + (pad + 1), none⟩) hbw2).trans hc3) | (with_reducible refine (unhide HTF2 _ (bel_drewN hL _)).mono ?_; rintro e w2 ⟨rfl, hw2⟩; subst hw2)) | (go_at_call 67; first | (with_reducible refine (unhide HT1 _).mono ?_; rintro e w2 ⟨rfl, hw2⟩; subst hw2) | (with_reducible refine (unhide HT2 _).mono ?_; rintro e w2 ⟨rfl, hw2⟩; subst hw2)))
            refine dbl_r10 b off n c o f Lo co ao T (lowI o) Pt.nil false _ (by omega) (by omega) ((((bel_drewN hL _).cell (p := ⟨b, off + o, none⟩) hbw)).trans hco) (hide fun W hW => unhide HRW W ((bel_drewN hL _).trans (hW.mono (bel_drewN hL _).size))) HLOW _ _ _ _ _ _ _ _ _ _ _ _ _ _ _ _ _ _ _ _ _ _ _ _ _ _ _ _ _ _ _ _ _ _ _ _ _ _ _ _ _ _ _ _ _ _ _ _ _ _ _ _ _ _ _ _ _ _ _ _ _ _ _ _ _ _ _ _ _ _ _ _ _ _ _ _ _ _ _ _ _ _ _ _ (hide ?_)
            intro v67 v68 v69 v70 v71 v72 v73 v74 v75 v66 v76 v77 G w' hG hpt hb'
            have hb2 := (bel_drewN hL _).trans (hb'.mono (bel_drewN hL _).size)
            obtain ⟨hz7, hz3⟩ := unhide HZ
            have hz7' := (hz7.below (drewN_below _ _)).below hb'
            have hz3' := (hz3.below (drewN_below _ _)).below hb'
            clear HZ a0 a1 a2 a3 a4 a5 a6 e0 e1 e2 e3 e4 e5 e6 z0 z1 z2 y0 y1 y2 d1 d2 d3 hz7 hz3 hb'
            obtain ⟨a0, a1, a2, a3, a4, a5, a6, e0, e1, e2, e3, e4, e5, e6⟩ := hz7'
            obtain ⟨z0, z1, z2, y0, y1, y2⟩ := hz3'
            go_wp2_with fail
            exact bodyPost_ret (v := spRes none) (by simp [results, Fagg.results70, go_sem, spRes, spP, padV, Sp.nil, Pt.nil, a0, a1, a2, a3, a4, a5, a6, e0, e1, e2, e3, e4, e5, e6, z0, z1, z2, y0, y1, y2]) rfl ⟨by rw [unhide HF], below_set73 hb2 (by omega) (by omega) _ _ _ _ _ _ _ _ _ _⟩
          | some p =>
            rw [hr] at HRW
            have HF := hide (show doubleOf ms x = some ⟨(o : Int), p, (t : Int), (pad : Int), 2⟩ by rw [unhide HD]; simp only [hr])
            clear HD hr
            go_enter Fagg.func70, Fagg.ntmps70
            go_wp2_with (first | (go_at_call 71; first | (with_reducible refine (unhide HTF _ (((Below.refl _ _).alloc (Nat.le_refl _) _).alloc (by simp) _)).mono ?_; rintro e w1 ⟨rfl, hw1⟩; obtain ⟨hL, hZ⟩ := two_made hw1; clear hw1; have HZ := hide hZ; obtain ⟨⟨a0, a1, a2, a3, a4, a5, a6, e0, e1, e2, e3, e4, e5, e6⟩, ⟨z0, z1, z2, y0, y1, y2⟩⟩ := hZ; have d1 := (hL.cell (p := ⟨b, off + t, none⟩) hbw).trans hc1; have d2 := (hL.cell (p := ⟨b2, o2 + pad, none⟩) hbw2).trans hc2; have d3 := (hL.cell (p := ⟨b2, o2 + (pad + 1), none⟩) hbw2).trans hc3) | (with_reducible refine (unhide HTF2 _ (bel_drewN hL _)).mono ?_; rintro e w2 ⟨rfl, hw2⟩; subst hw2)) | (go_at_call 67; first | (with_reducible refine (unhide HT1 _).mono ?_; rintro e w2 ⟨rfl, hw2⟩; subst hw2) | (with_reducible refine (unhide HT2 _).mono ?_; rintro e w2 ⟨rfl, hw2⟩; subst hw2)))
            go_quiet (fail)
            go_wp2_with (first | (go_at_call 71; first | (with_reducible refine (unhide HTF _ (((Below.refl _ _).alloc (Nat.le_refl _) _).alloc (by simp) _)).mono ?_; rintro e w1 ⟨rfl, hw1⟩; obtain ⟨hL, hZ⟩ := two_made hw1; clear hw1; have HZ := hide hZ; obtain ⟨⟨a0, a1, a2, a3, a4, a5, a6, e0, e1, e2, e3, e4, e5, e6⟩, ⟨z0, z1, z2, y0, y1, y2⟩⟩ := hZ; have d1 := (hL.cell (p := ⟨b, off + t, none⟩) hbw).trans hc1; have d2 := (hL.cell (p := ⟨b2, o2 + pad, none⟩) hbw2).trans hc2; have d3 := (hL.cell (p := ⟨b2, o2 + (pad + 1), none⟩) hbw2).trans hc3) | (with_reducible refine (unhide HTF2 _ (bel_drewN hL _)).mono ?_; rintro e w2 ⟨rfl, hw2⟩; subst hw2)) | (go_at_call 67; first | (with_reducible refine (unhide HT1 _).mono ?_; rintro e w2 ⟨rfl, hw2⟩; subst hw2) | (with_reducible refine (unhide HT2 _).mono ?_; rintro e w2 ⟨rfl, hw2⟩; subst hw2)))
            refine dbl_r10 b off n c o f Lo co ao T (lowI o) p true _ (by omega) (by omega) ((((bel_drewN hL _).cell (p := ⟨b, off + o, none⟩) hbw)).trans hco) (hide fun W hW => unhide HRW W ((bel_drewN hL _).trans (hW.mono (bel_drewN hL _).size))) HLOW _ _ _ _ _ _ _ _ _ _ _ _ _ _ _ _ _ _ _ _ _ _ _ _ _ _ _ _ _ _ _ _ _ _ _ _ _ _ _ _ _ _ _ _ _ _ _ _ _ _ _ _ _ _ _ _ _ _ _ _ _ _ _ _ _ _ _ _ _ _ _ _ _ _ _ _ _ _ _ _ _ _ _ _ (hide ?_)
            intro v67 v68 v69 v70 v71 v72 v73 v74 v75 v66 v76 v77 G w' hG hpt hb'
            have hb2 := (bel_drewN hL _).trans (hb'.mono (bel_drewN hL _).size)
            obtain ⟨hz7, hz3⟩ := unhide HZ
            have hz7' := (hz7.below (drewN_below _ _)).below hb'
            have hz3' := (hz3.below (drewN_below _ _)).below hb'
            clear HZ a0 a1 a2 a3 a4 a5 a6 e0 e1 e2 e3 e4 e5 e6 z0 z1 z2 y0 y1 y2 d1 d2 d3 hz7 hz3 hb'
            obtain ⟨a0, a1, a2, a3, a4, a5, a6, e0, e1, e2, e3, e4, e5, e6⟩ := hz7'
            obtain ⟨z0, z1, z2, y0, y1, y2⟩ := hz3'
            obtain ⟨p0, p1, p2, p3, p4, p5⟩ := hpt
            go_wp2_with fail
            exact bodyPost_ret (v := spRes (some ⟨(o : Int), p, (t : Int), (pad : Int), 2⟩)) (by simp [results, Fagg.results70, go_sem, spRes, spP, padV, Sp.nil, Pt.nil, a0, a1, a2, a3, a4, a5, a6, e0, e1, e2, e3, e4, e5, e6, z0, z1, z2, y0, y1, y2]) rfl ⟨by rw [unhide HF], below_set73 hb2 (by omega) (by omega) _ _ _ _ _ _ _ _ _ _⟩
      · have h4' : (T / 4 % 1073741824 != 0) = true := by simp [h4]
        have HF := hide (show doubleOf ms x = none by rw [unhide HD, if_pos (.inr (.inr h4))])
        clear h4 HD
        go_enter Fagg.func70, Fagg.ntmps70
        go_wp2_with (first | (go_at_call 71; first | (with_reducible refine (unhide HTF _ (((Below.refl _ _).alloc (Nat.le_refl _) _).alloc (by simp) _)).mono ?_; rintro e w1 ⟨rfl, hw1⟩; obtain ⟨hL, hZ⟩ := two_made hw1; clear hw1; have HZ := hide hZ; obtain ⟨⟨a0, a1, a2, a3, a4, a5, a6, e0, e1, e2, e3, e4, e5, e6⟩, ⟨z0, z1, z2, y0, y1, y2⟩⟩ := hZ; have d1 := (hL.cell (p := ⟨b, off + t, none⟩) hbw).trans hc1; have d2 := (hL.cell (p := ⟨b2, o2 + pad, none⟩) hbw2).trans hc2; have d3 := (hL.cell (p := ⟨b2, o2 + (pad + 1), none⟩) hbw2).trans hc3) | (with_reducible refine (unhide HTF2 _ (bel_drewN hL _)).mono ?_; rintro e w2 ⟨rfl, hw2⟩; subst hw2)) | (go_at_call 67; first | (with_reducible refine (unhide HT1 _).mono ?_; rintro e w2 ⟨rfl, hw2⟩; subst hw2) | (with_reducible refine (unhide HT2 _).mono ?_; rintro e w2 ⟨rfl, hw2⟩; subst hw2)))
        go_quiet (fail)
        go_wp2_with (first | (go_at_call 71; first | (with_reducible refine (unhide HTF _ (((Below.refl _ _).alloc (Nat.le_refl _) _).alloc (by simp) _)).mono ?_; rintro e w1 ⟨rfl, hw1⟩; obtain ⟨hL, hZ⟩ := two_made hw1; clear hw1; have HZ := hide hZ; obtain ⟨⟨a0, a1, a2, a3, a4, a5, a6, e0, e1, e2, e3, e4, e5, e6⟩, ⟨z0, z1, z2, y0, y1, y2⟩⟩ := hZ; have d1 := (hL.cell (p := ⟨b, off + t, none⟩) hbw).trans hc1; have d2 := (hL.cell (p := ⟨b2, o2 + pad, none⟩) hbw2).trans hc2; have d3 := (hL.cell (p := ⟨b2, o2 + (pad + 1), none⟩) hbw2).trans hc3) | (with_reducible refine (unhide HTF2 _ (bel_drewN hL _)).mono ?_; rintro e w2 ⟨rfl, hw2⟩; subst hw2)) | (go_at_call 67; first | (with_reducible refine (unhide HT1 _).mono ?_; rintro e w2 ⟨rfl, hw2⟩; subst hw2) | (with_reducible refine (unhide HT2 _).mono ?_; rintro e w2 ⟨rfl, hw2⟩; subst hw2)))
        exact bodyPost_ret (v := spRes none) (by simp [results, Fagg.results70, go_sem, spRes, spP, padV, Sp.nil, Pt.nil, a0, a1, a2, a3, a4, a5, a6, e0, e1, e2, e3, e4, e5, e6, z0, z1, z2, y0, y1, y2]) rfl ⟨by rw [unhide HF], below_set73 (bel_drewN hL _) (by omega) (by omega) _ _ _ _ _ _ _ _ _ _⟩
  · have h8' : (F % 8 != 2) = true := by simp [h8]
    have HF := hide (show doubleOf ms x = none by rw [unhide HD, if_pos (.inl h8)])
    clear h8 HD
    go_enter Fagg.func70, Fagg.ntmps70
    go_wp2_with (first | (go_at_call 71; first | (with_reducible refine (unhide HTF _ (((Below.refl _ _).alloc (Nat.le_refl _) _).alloc (by simp) _)).mono ?_; rintro e w1 ⟨rfl, hw1⟩; obtain ⟨hL, hZ⟩ := two_made hw1; clear hw1; have HZ := hide hZ; obtain ⟨⟨a0, a1, a2, a3, a4, a5, a6, e0, e1, e2, e3, e4, e5, e6⟩, ⟨z0, z1, z2, y0, y1, y2⟩⟩ := hZ; have d1 := (hL.cell (p := ⟨b, off + t, none⟩) hbw).trans hc1; have d2 := (hL.cell (p := ⟨b2, o2 + pad, none⟩) hbw2).trans hc2; have d3 := (hL.cell (p := ⟨b2, o2 + (pad + 1), none⟩) hbw2).trans hc3) | (with_reducible refine (unhide HTF2 _ (bel_drewN hL _)).mono ?_; rintro e w2 ⟨rfl, hw2⟩; subst hw2)) | (go_at_call 67; first | (with_reducible refine (unhide HT1 _).mono ?_; rintro e w2 ⟨rfl, hw2⟩; subst hw2) | (with_reducible refine (unhide HT2 _).mono ?_; rintro e w2 ⟨rfl, hw2⟩; subst hw2)))
    go_quiet (fail)
    go_wp2_with (first | (go_at_call 71; first | (with_reducible refine (unhide HTF _ (((Below.refl _ _).alloc (Nat.le_refl _) _).alloc (by simp) _)).mono ?_; rintro e w1 ⟨rfl, hw1⟩; obtain ⟨hL, hZ⟩ := two_made hw1; clear hw1; have HZ := hide hZ; obtain ⟨⟨a0, a1, a2, a3, a4, a5, a6, e0, e1, e2, e3, e4, e5, e6⟩, ⟨z0, z1, z2, y0, y1, y2⟩⟩ := hZ; have d1 := (hL.cell (p := ⟨b, off + t, none⟩) hbw).trans hc1; have d2 := (hL.cell (p := ⟨b2, o2 + pad, none⟩) hbw2).trans hc2; have d3 := (hL.cell (p := ⟨b2, o2 + (pad + 1), none⟩) hbw2).trans hc3) | (with_reducible refine (unhide HTF2 _ (bel_drewN hL _)).mono ?_; rintro e w2 ⟨rfl, hw2⟩; subst hw2)) | (go_at_call 67; first | (with_reducible refine (unhide HT1 _).mono ?_; rintro e w2 ⟨rfl, hw2⟩; subst hw2) | (with_reducible refine (unhide HT2 _).mono ?_; rintro e w2 ⟨rfl, hw2⟩; subst hw2)))
    exact bodyPost_ret (v := spRes none) (by simp [results, Fagg.results70, go_sem, spRes, spP, padV, Sp.nil, Pt.nil, a0, a1, a2, a3, a4, a5, a6, e0, e1, e2, e3, e4, e5, e6, z0, z1, z2, y0, y1, y2]) rfl ⟨by rw [unhide HF], below_set73 (bel_drewN hL _) (by omega) (by omega) _ _ _ _ _ _ _ _ _ _⟩
end Go.Proofs.Ygcfag
