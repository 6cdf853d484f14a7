/-
  WALKS: seg.Resolve, whole.
-/
import Derived.Test.YgcfagW41
namespace Go.Proofs.Ygcfag
open Go.RowKit
set_option linter.unusedVariables false
set_option linter.unusedSimpArgs false

set_option maxHeartbeats 4000000 in
set_option maxRecDepth 100000 in
theorem resolve_dbl (b off n c s i L c2 b2 o2 : Nat) (ms : List (List Int)) (x : Int) (w : World) (hs : SegsAt w (some ⟨b, off, none⟩) ms) (hn : ms.length = n) (hf : fitsOf ms = true) (hw : ∀ i, Wds (ms.getD i [])) (hsn : s < n) (hil : i < L) (hLL : (ms.getD s []).length = L) (hbw : b < w.heap.size) (hbw2 : b2 < w.heap.size) (hc1 : w.cell? ⟨b, off + s, none⟩ = some (.slice (some ⟨b2, o2, none⟩) L c2)) (hc2 : w.cell? ⟨b2, o2 + i, none⟩ = some (.int .u64 x)) (hx : 0 ≤ x ∧ x < 18446744073709551616) (hr : x % 4 = 2) (hd : x / 4 % 2 = 1) :
    Calls Fagg.prog 27 #[.slice (some ⟨b, off, none⟩) n c, .int .u8 (s : Int), .int .u16 (i : Int)] w fun e w' => e = .returned (spRes (doubleOf ms x)) ∧ Below w.heap.size w w' := by
  obtain ⟨hn1, hn8, hl⟩ := fits_facts hf
  have hL256 := hl s
  have HFIT := hide (fun W (hW : Below w.heap.size w W) => fits_any (some ⟨b, off, none⟩) n c ms W (hs.below hW) hn)
  rw [hf] at HFIT
  have HT1 := hide (fun W => take_0_2 x W hx.1 hx.2)
  have HT2 := hide (fun W => take_2_1 x W hx.1 hx.2)
  have e1 : ¬ (s : Int) ≥ (n : Int) := by omega
  have e2 : ¬ (i : Int) ≥ (L : Int) := by omega
  have hr' : (x % 4 != 2) = false := by simp [hr]
  have hi256 : i < 256 := by omega
  have hs8 : s < 8 := by omega
  have hd' : (x / 4 % 2 == 1) = true := by simp [hd]
  have HDB := hide (fun W (hW : Below w.heap.size w W) => double_any (some ⟨b, off, none⟩) n c ms x W (hs.below hW) hn (by omega) (by omega) hl hw hx.1 hx.2)
  clear hs hf hw hn hl hr hLL hd
  generalize doubleOf ms x = r at *
  cases r with
  | none =>
    have HF : Hid ((none : Option Sp) = none) := rfl
    simp only [spRes, spP, padV, Pt.nil] at HDB
    go_enter Fagg.func27, Fagg.ntmps27
    go_wp2_with (first | (go_at_call 66; with_reducible refine (unhide HFIT _ (((Below.refl _ _).alloc (Nat.le_refl _) _).alloc (by simp) _)).mono ?_; rintro e w1 ⟨rfl, hw1⟩; obtain ⟨hL, hZ⟩ := two_made ((hw1).trans rfl); clear hw1; have HZ := hide hZ; obtain ⟨⟨a0, a1, a2, a3, a4, a5, a6, e0, e1, e2, e3, e4, e5, e6⟩, ⟨z0, z1, z2, y0, y1, y2⟩⟩ := hZ; have d1 := (hL.cell (p := ⟨b, off + s, none⟩) hbw).trans hc1; have d2 := (hL.cell (p := ⟨b2, o2 + i, none⟩) hbw2).trans hc2) | (go_at_call 67; first | (with_reducible refine (unhide HT1 _).mono ?_; rintro e w2 ⟨rfl, hw2⟩; subst hw2) | (with_reducible refine (unhide HT2 _).mono ?_; rintro e w2 ⟨rfl, hw2⟩; subst hw2)) | (go_at_call 70; with_reducible refine (unhide HDB _ hL).mono ?_; rintro e w2 ⟨rfl, hb'⟩; have hb2 := hL.trans (hb'.mono hL.size); obtain ⟨hz7, hz3⟩ := unhide HZ; have hz7' := hz7.below hb'; have hz3' := hz3.below hb'; clear HZ a0 a1 a2 a3 a4 a5 a6 e0 e1 e2 e3 e4 e5 e6 z0 z1 z2 y0 y1 y2 d1 d2 hz7 hz3 hb'; obtain ⟨a0, a1, a2, a3, a4, a5, a6, e0, e1, e2, e3, e4, e5, e6⟩ := hz7'; obtain ⟨z0, z1, z2, y0, y1, y2⟩ := hz3'))
    exact bodyPost_ret (v := spRes none) (by simp [results, Fagg.results27, go_sem, spRes, spP, padV, Sp.nil, Pt.nil, a0, a1, a2, a3, a4, a5, a6, e0, e1, e2, e3, e4, e5, e6, z0, z1, z2, y0, y1, y2]) rfl ⟨rfl, below_set73 hb2 (by omega) (by omega) _ _ _ _ _ _ _ _ _ _⟩
  | some r =>
    simp only [spRes, spP, padV] at HDB
    go_enter Fagg.func27, Fagg.ntmps27
    go_wp2_with (first | (go_at_call 66; with_reducible refine (unhide HFIT _ (((Below.refl _ _).alloc (Nat.le_refl _) _).alloc (by simp) _)).mono ?_; rintro e w1 ⟨rfl, hw1⟩; obtain ⟨hL, hZ⟩ := two_made ((hw1).trans rfl); clear hw1; have HZ := hide hZ; obtain ⟨⟨a0, a1, a2, a3, a4, a5, a6, e0, e1, e2, e3, e4, e5, e6⟩, ⟨z0, z1, z2, y0, y1, y2⟩⟩ := hZ; have d1 := (hL.cell (p := ⟨b, off + s, none⟩) hbw).trans hc1; have d2 := (hL.cell (p := ⟨b2, o2 + i, none⟩) hbw2).trans hc2) | (go_at_call 67; first | (with_reducible refine (unhide HT1 _).mono ?_; rintro e w2 ⟨rfl, hw2⟩; subst hw2) | (with_reducible refine (unhide HT2 _).mono ?_; rintro e w2 ⟨rfl, hw2⟩; subst hw2)) | (go_at_call 70; with_reducible refine (unhide HDB _ hL).mono ?_; rintro e w2 ⟨rfl, hb'⟩; have hb2 := hL.trans (hb'.mono hL.size); obtain ⟨hz7, hz3⟩ := unhide HZ; have hz7' := hz7.below hb'; have hz3' := hz3.below hb'; clear HZ a0 a1 a2 a3 a4 a5 a6 e0 e1 e2 e3 e4 e5 e6 z0 z1 z2 y0 y1 y2 d1 d2 hz7 hz3 hb'; obtain ⟨a0, a1, a2, a3, a4, a5, a6, e0, e1, e2, e3, e4, e5, e6⟩ := hz7'; obtain ⟨z0, z1, z2, y0, y1, y2⟩ := hz3'))
    exact bodyPost_ret (v := spRes (some r)) (by simp [results, Fagg.results27, go_sem, spRes, spP, padV, Sp.nil, Pt.nil, a0, a1, a2, a3, a4, a5, a6, e0, e1, e2, e3, e4, e5, e6, z0, z1, z2, y0, y1, y2]) rfl ⟨rfl, below_set73 hb2 (by omega) (by omega) _ _ _ _ _ _ _ _ _ _⟩

set_option maxHeartbeats 4000000 in
set_option maxRecDepth 100000 in
theorem resolve_far0 (b off n c s i L c2 b2 o2 : Nat) (ms : List (List Int)) (x : Int) (w : World) (hs : SegsAt w (some ⟨b, off, none⟩) ms) (hn : ms.length = n) (hf : fitsOf ms = true) (hw : ∀ i, Wds (ms.getD i [])) (hsn : s < n) (hil : i < L) (hLL : (ms.getD s []).length = L) (hbw : b < w.heap.size) (hbw2 : b2 < w.heap.size) (hc1 : w.cell? ⟨b, off + s, none⟩ = some (.slice (some ⟨b2, o2, none⟩) L c2)) (hc2 : w.cell? ⟨b2, o2 + i, none⟩ = some (.int .u64 x)) (hx : 0 ≤ x ∧ x < 18446744073709551616) (hr : x % 4 = 2) (hd : x / 4 % 2 ≠ 1) (hfo : farOf ms x 1 = none) :
    Calls Fagg.prog 27 #[.slice (some ⟨b, off, none⟩) n c, .int .u8 (s : Int), .int .u16 (i : Int)] w fun e w' => e = .returned (spRes (singleOf ms x)) ∧ Below w.heap.size w w' := by
  obtain ⟨hn1, hn8, hl⟩ := fits_facts hf
  have hL256 := hl s
  have HFIT := hide (fun W (hW : Below w.heap.size w W) => fits_any (some ⟨b, off, none⟩) n c ms W (hs.below hW) hn)
  rw [hf] at HFIT
  have HT1 := hide (fun W => take_0_2 x W hx.1 hx.2)
  have HT2 := hide (fun W => take_2_1 x W hx.1 hx.2)
  have e1 : ¬ (s : Int) ≥ (n : Int) := by omega
  have e2 : ¬ (i : Int) ≥ (L : Int) := by omega
  have hr' : (x % 4 != 2) = false := by simp [hr]
  have hi256 : i < 256 := by omega
  have hs8 : s < 8 := by omega
  have hd' : (x / 4 % 2 == 1) = false := by simp [hd]
  have HTF := hide (fun W (hW : Below w.heap.size w W) => takeFar_any (some ⟨b, off, none⟩) n c ms x 1 W (hs.below hW) hn (by omega) (by omega) hl hx.1 hx.2 (by omega))
  have HF := hide (show singleOf ms x = none by unfold singleOf; rw [hfo])
  rw [hfo] at HTF
  simp only [farV] at HTF
  clear hs hf hw hn hl hr hLL hd hfo
  go_enter Fagg.func27, Fagg.ntmps27
  go_wp2_with (first | (go_at_call 66; with_reducible refine (unhide HFIT _ (((Below.refl _ _).alloc (Nat.le_refl _) _).alloc (by simp) _)).mono ?_; rintro e w1 ⟨rfl, hw1⟩; obtain ⟨hL, hZ⟩ := two_made ((hw1).trans rfl); clear hw1; have HZ := hide hZ; obtain ⟨⟨a0, a1, a2, a3, a4, a5, a6, e0, e1, e2, e3, e4, e5, e6⟩, ⟨z0, z1, z2, y0, y1, y2⟩⟩ := hZ; have d1 := (hL.cell (p := ⟨b, off + s, none⟩) hbw).trans hc1; have d2 := (hL.cell (p := ⟨b2, o2 + i, none⟩) hbw2).trans hc2) | (go_at_call 67; first | (with_reducible refine (unhide HT1 _).mono ?_; rintro e w2 ⟨rfl, hw2⟩; subst hw2) | (with_reducible refine (unhide HT2 _).mono ?_; rintro e w2 ⟨rfl, hw2⟩; subst hw2)) | (go_at_call 71; with_reducible refine (unhide HTF _ hL).mono ?_; rintro e w2 ⟨rfl, hw2⟩; subst hw2))
  exact bodyPost_ret (v := spRes none) (by simp [results, Fagg.results27, go_sem, spRes, spP, padV, Sp.nil, Pt.nil, a0, a1, a2, a3, a4, a5, a6, e0, e1, e2, e3, e4, e5, e6, z0, z1, z2, y0, y1, y2]) rfl ⟨by rw [unhide HF], below_set73 hL (by omega) (by omega) _ _ _ _ _ _ _ _ _ _⟩

set_option maxHeartbeats 4000000 in
set_option maxRecDepth 100000 in
theorem resolve_far1 (b off n c s i L c2 b2 o2 : Nat) (ms : List (List Int)) (x : Int) (w : World) (hs : SegsAt w (some ⟨b, off, none⟩) ms) (hn : ms.length = n) (hf : fitsOf ms = true) (hw : ∀ i, Wds (ms.getD i [])) (hsn : s < n) (hil : i < L) (hLL : (ms.getD s []).length = L) (hbw : b < w.heap.size) (hbw2 : b2 < w.heap.size) (hc1 : w.cell? ⟨b, off + s, none⟩ = some (.slice (some ⟨b2, o2, none⟩) L c2)) (hc2 : w.cell? ⟨b2, o2 + i, none⟩ = some (.int .u64 x)) (hx : 0 ≤ x ∧ x < 18446744073709551616) (hr : x % 4 = 2) (t pad L3 c3 b3 o3 : Nat) (y : Int) (hd : x / 4 % 2 ≠ 1) (hfo : farOf ms x 1 = some (t, pad)) (htn : t < n) (hpl : pad < L3) (hL3 : (ms.getD t []).length = L3) (hbw3 : b3 < w.heap.size) (ht1 : w.cell? ⟨b, off + t, none⟩ = some (.slice (some ⟨b3, o3, none⟩) L3 c3)) (ht2 : w.cell? ⟨b3, o3 + pad, none⟩ = some (.int .u64 y)) (hyw : wordOf ms t pad = y) (hy : 0 ≤ y ∧ y < 18446744073709551616) (hsl : Sl .u64 w (some ⟨b3, o3, none⟩) (ms.getD t [])) :
    Calls Fagg.prog 27 #[.slice (some ⟨b, off, none⟩) n c, .int .u8 (s : Int), .int .u16 (i : Int)] w fun e w' => e = .returned (spRes (singleOf ms x)) ∧ Below w.heap.size w w' := by
  obtain ⟨hn1, hn8, hl⟩ := fits_facts hf
  have hL256 := hl s
  have HFIT := hide (fun W (hW : Below w.heap.size w W) => fits_any (some ⟨b, off, none⟩) n c ms W (hs.below hW) hn)
  rw [hf] at HFIT
  have HT1 := hide (fun W => take_0_2 x W hx.1 hx.2)
  have HT2 := hide (fun W => take_2_1 x W hx.1 hx.2)
  have e1 : ¬ (s : Int) ≥ (n : Int) := by omega
  have e2 : ¬ (i : Int) ≥ (L : Int) := by omega
  have hr' : (x % 4 != 2) = false := by simp [hr]
  have hi256 : i < 256 := by omega
  have hs8 : s < 8 := by omega
  have hd' : (x / 4 % 2 == 1) = false := by simp [hd]
  have hl3 := hl t
  have HTF := hide (fun W (hW : Below w.heap.size w W) => takeFar_any (some ⟨b, off, none⟩) n c ms x 1 W (hs.below hW) hn (by omega) (by omega) hl hx.1 hx.2 (by omega))
  rw [hfo] at HTF
  simp only [farV] at HTF
  have HSG := hide (show singleOf ms x = if y = 0 then none else match readOf (ms.getD t []) y ((pad : Int) + 1) (lowI t) with
      | none => none
      | some p => some ⟨(t : Int), p, (t : Int), (pad : Int), 1⟩ by unfold singleOf; rw [hfo]; simp only [hyw]; rfl)
  have hwr : IntKind.u16.wrap ((pad : Int) + 1) = (pad : Int) + 1 := by rw [IntKind.wrap_u16]; omega
  have HRW := hide (fun W (hW : Below w.heap.size w W) => resolveWord_any (some ⟨b3, o3, none⟩) L3 c3 (ms.getD t []) y ((pad : Int) + 1) (lowI t) W (hsl.below hW) hL3 (hw t) (by omega) hy.1 hy.2 (by omega) (by unfold lowI; split <;> omega))
  have HLOW := hide (fun W => low_s (t : Int) W (by omega) (by omega))
  have hlo : (if (t : Int) = 0 then (1 : Int) else 0) = lowI t := by unfold lowI; split <;> split <;> omega
  rw [hlo] at HLOW
  have ht8 : t < 8 := by omega
  have hp256 : pad < 256 := by omega
  clear hs hf hw hn hl hr hLL hd hfo hsl hlo hyw hL3
  by_cases hy0 : y = 0
  · have HF := hide (show singleOf ms x = none by rw [unhide HSG, if_pos hy0])
    have hy0' : (y == 0) = true := by simp [hy0]
    clear HSG hy0
    go_enter Fagg.func27, Fagg.ntmps27
    go_wp2_with (first | (go_at_call 66; with_reducible refine (unhide HFIT _ (((Below.refl _ _).alloc (Nat.le_refl _) _).alloc (by simp) _)).mono ?_; rintro e w1 ⟨rfl, hw1⟩; obtain ⟨hL, hZ⟩ := two_made ((hw1).trans rfl); clear hw1; have HZ := hide hZ; obtain ⟨⟨a0, a1, a2, a3, a4, a5, a6, e0, e1, e2, e3, e4, e5, e6⟩, ⟨z0, z1, z2, y0, y1, y2⟩⟩ := hZ; have d1 := (hL.cell (p := ⟨b, off + s, none⟩) hbw).trans hc1; have d2 := (hL.cell (p := ⟨b2, o2 + i, none⟩) hbw2).trans hc2; have d3 := (hL.cell (p := ⟨b, off + t, none⟩) hbw).trans ht1; have d4 := (hL.cell (p := ⟨b3, o3 + pad, none⟩) hbw3).trans ht2) | (go_at_call 67; first | (with_reducible refine (unhide HT1 _).mono ?_; rintro e w2 ⟨rfl, hw2⟩; subst hw2) | (with_reducible refine (unhide HT2 _).mono ?_; rintro e w2 ⟨rfl, hw2⟩; subst hw2)) | (go_at_call 71; with_reducible refine (unhide HTF _ hL).mono ?_; rintro e w2 ⟨rfl, hw2⟩; subst hw2))
    exact bodyPost_ret (v := spRes none) (by simp [results, Fagg.results27, go_sem, spRes, spP, padV, Sp.nil, Pt.nil, a0, a1, a2, a3, a4, a5, a6, e0, e1, e2, e3, e4, e5, e6, z0, z1, z2, y0, y1, y2]) rfl ⟨by rw [unhide HF], below_set73 hL (by omega) (by omega) _ _ _ _ _ _ _ _ _ _⟩
  · have hy0' : (y == 0) = false := by simp [hy0]
    replace HSG := hide (show singleOf ms x = _ by rw [unhide HSG, if_neg hy0])
    clear hy0
    cases hrd : readOf (ms.getD t []) y ((pad : Int) + 1) (lowI t) with
    | none =>
      rw [hrd] at HRW HSG
      have HF := HSG
      clear HSG hrd
      go_enter Fagg.func27, Fagg.ntmps27
      go_wp2_with (first | (go_at_call 66; with_reducible refine (unhide HFIT _ (((Below.refl _ _).alloc (Nat.le_refl _) _).alloc (by simp) _)).mono ?_; rintro e w1 ⟨rfl, hw1⟩; obtain ⟨hL, hZ⟩ := two_made ((hw1).trans rfl); clear hw1; have HZ := hide hZ; obtain ⟨⟨a0, a1, a2, a3, a4, a5, a6, e0, e1, e2, e3, e4, e5, e6⟩, ⟨z0, z1, z2, y0, y1, y2⟩⟩ := hZ; have d1 := (hL.cell (p := ⟨b, off + s, none⟩) hbw).trans hc1; have d2 := (hL.cell (p := ⟨b2, o2 + i, none⟩) hbw2).trans hc2; have d3 := (hL.cell (p := ⟨b, off + t, none⟩) hbw).trans ht1; have d4 := (hL.cell (p := ⟨b3, o3 + pad, none⟩) hbw3).trans ht2) | (go_at_call 67; first | (with_reducible refine (unhide HT1 _).mono ?_; rintro e w2 ⟨rfl, hw2⟩; subst hw2) | (with_reducible refine (unhide HT2 _).mono ?_; rintro e w2 ⟨rfl, hw2⟩; subst hw2)) | (go_at_call 71; with_reducible refine (unhide HTF _ hL).mono ?_; rintro e w2 ⟨rfl, hw2⟩; subst hw2))
      refine res_r14 b off n c t pad L3 c3 b3 o3 y (lowI t) Pt.nil false _ htn ht8 hpl hp256 d3 d4 (hide fun W hW => by rw [hwr]; exact unhide HRW W (hL.trans (hW.mono hL.size))) HLOW _ _ _ _ _ _ _ _ _ _ _ _ _ _ _ _ _ _ _ _ _ _ _ _ _ _ _ _ _ _ _ _ _ _ _ _ _ _ _ _ _ _ _ _ _ _ _ _ _ _ _ _ _ _ _ _ _ _ _ _ _ _ _ _ _ _ _ _ _ _ _ _ _ _ _ _ _ _ _ _ _ _ _ _ _ _ _ _ _ _ _ _ _ _ _ _ _ _ _ _ _ _ _ _ _ _ _ _ _ _ _ _ _ _ _ _ _ _ _ _ _ _ _ _ _ _ _ _ _ _ _ (hide ?_)
      intro v106 v107 v108 v109 v110 v111 v112 v113 v114 v115 v116 v117 v118 v119 v120 v121 v105 v122 v123 G w' hG hpt hb'
      have hb2 := hL.trans (hb'.mono hL.size)
      obtain ⟨hz7, hz3⟩ := unhide HZ
      have hz7' := hz7.below hb'
      have hz3' := hz3.below hb'
      clear HZ a0 a1 a2 a3 a4 a5 a6 e0 e1 e2 e3 e4 e5 e6 z0 z1 z2 y0 y1 y2 d1 d2 d3 d4 hz7 hz3 hb'
      obtain ⟨a0, a1, a2, a3, a4, a5, a6, e0, e1, e2, e3, e4, e5, e6⟩ := hz7'
      obtain ⟨z0, z1, z2, y0, y1, y2⟩ := hz3'
      obtain ⟨p0, p1, p2, p3, p4, p5⟩ := hpt
      go_wp2_with fail
      exact bodyPost_ret (v := spRes none) (by simp [results, Fagg.results27, go_sem, spRes, spP, padV, Sp.nil, Pt.nil, a0, a1, a2, a3, a4, a5, a6, e0, e1, e2, e3, e4, e5, e6, z0, z1, z2, y0, y1, y2]) rfl ⟨by rw [unhide HF], below_set73 hb2 (by omega) (by omega) _ _ _ _ _ _ _ _ _ _⟩
    | some q =>
      rw [hrd] at HRW HSG
      have HF := HSG
      clear HSG hrd
      go_enter Fagg.func27, Fagg.ntmps27
      go_wp2_with (first | (go_at_call 66; with_reducible refine (unhide HFIT _ (((Below.refl _ _).alloc (Nat.le_refl _) _).alloc (by simp) _)).mono ?_; rintro e w1 ⟨rfl, hw1⟩; obtain ⟨hL, hZ⟩ := two_made ((hw1).trans rfl); clear hw1; have HZ := hide hZ; obtain ⟨⟨a0, a1, a2, a3, a4, a5, a6, e0, e1, e2, e3, e4, e5, e6⟩, ⟨z0, z1, z2, y0, y1, y2⟩⟩ := hZ; have d1 := (hL.cell (p := ⟨b, off + s, none⟩) hbw).trans hc1; have d2 := (hL.cell (p := ⟨b2, o2 + i, none⟩) hbw2).trans hc2; have d3 := (hL.cell (p := ⟨b, off + t, none⟩) hbw).trans ht1; have d4 := (hL.cell (p := ⟨b3, o3 + pad, none⟩) hbw3).trans ht2) | (go_at_call 67; first | (with_reducible refine (unhide HT1 _).mono ?_; rintro e w2 ⟨rfl, hw2⟩; subst hw2) | (with_reducible refine (unhide HT2 _).mono ?_; rintro e w2 ⟨rfl, hw2⟩; subst hw2)) | (go_at_call 71; with_reducible refine (unhide HTF _ hL).mono ?_; rintro e w2 ⟨rfl, hw2⟩; subst hw2))
      refine res_r14 b off n c t pad L3 c3 b3 o3 y (lowI t) q true _ htn ht8 hpl hp256 d3 d4 (hide fun W hW => by rw [hwr]; exact unhide HRW W (hL.trans (hW.mono hL.size))) HLOW _ _ _ _ _ _ _ _ _ _ _ _ _ _ _ _ _ _ _ _ _ _ _ _ _ _ _ _ _ _ _ _ _ _ _ _ _ _ _ _ _ _ _ _ _ _ _ _ _ _ _ _ _ _ _ _ _ _ _ _ _ _ _ _ _ _ _ _ _ _ _ _ _ _ _ _ _ _ _ _ _ _ _ _ _ _ _ _ _ _ _ _ _ _ _ _ _ _ _ _ _ _ _ _ _ _ _ _ _ _ _ _ _ _ _ _ _ _ _ _ _ _ _ _ _ _ _ _ _ _ _ (hide ?_)
      intro v106 v107 v108 v109 v110 v111 v112 v113 v114 v115 v116 v117 v118 v119 v120 v121 v105 v122 v123 G w' hG hpt hb'
      have hb2 := hL.trans (hb'.mono hL.size)
      obtain ⟨hz7, hz3⟩ := unhide HZ
      have hz7' := hz7.below hb'
      have hz3' := hz3.below hb'
      clear HZ a0 a1 a2 a3 a4 a5 a6 e0 e1 e2 e3 e4 e5 e6 z0 z1 z2 y0 y1 y2 d1 d2 d3 d4 hz7 hz3 hb'
      obtain ⟨a0, a1, a2, a3, a4, a5, a6, e0, e1, e2, e3, e4, e5, e6⟩ := hz7'
      obtain ⟨z0, z1, z2, y0, y1, y2⟩ := hz3'
      obtain ⟨p0, p1, p2, p3, p4, p5⟩ := hpt
      go_wp2_with fail
      exact bodyPost_ret (v := spRes (some ⟨(t : Int), q, (t : Int), (pad : Int), 1⟩)) (by simp [results, Fagg.results27, go_sem, spRes, spP, padV, Sp.nil, Pt.nil, a0, a1, a2, a3, a4, a5, a6, e0, e1, e2, e3, e4, e5, e6, z0, z1, z2, y0, y1, y2]) rfl ⟨by rw [unhide HF], below_set73 hb2 (by omega) (by omega) _ _ _ _ _ _ _ _ _ _⟩

/-- seg.Resolve. -/
def resolveB (ms : List (List Int)) (s i : Nat) : Option Sp := if fitsOf ms = true ∧ s < ms.length ∧ i < (ms.getD s []).length then resolveOf ms s i else none

theorem resolve_in (a : Option Addr) (n c s i : Nat) (ms : List (List Int)) (w : World) (hs : SegsAt w a ms) (hn : ms.length = n) (hf : fitsOf ms = true) (hw : ∀ i, Wds (ms.getD i [])) (hsn : s < n) (hil : i < (ms.getD s []).length) :
    Calls Fagg.prog 27 #[.slice a n c, .int .u8 (s : Int), .int .u16 (i : Int)] w fun e w' => e = .returned (spRes (resolveOf ms s i)) ∧ Below w.heap.size w w' := by
  have hff := fits_facts hf
  obtain ⟨b, off, rfl, hbw, hcell⟩ := hs.get (by omega)
  obtain ⟨b2, o2, c2, h1, h2, h3⟩ := SegsAt.word hcell s (by omega) (by omega)
  have hx := wds_bd (hw s) i
  by_cases hr : wordOf ms s i % 4 = 2
  · by_cases hd : wordOf ms s i / 4 % 2 = 1
    · have e : resolveOf ms s i = doubleOf ms (wordOf ms s i) := by unfold resolveOf; rw [if_neg (by simp [hr]), if_pos hd]
      rw [e]
      exact resolve_dbl b off n c s i _ c2 b2 o2 ms (wordOf ms s i) w hs hn hf hw hsn hil rfl hbw h2 h1 (h3 i hil) hx hr hd
    · have e : resolveOf ms s i = singleOf ms (wordOf ms s i) := by unfold resolveOf; rw [if_neg (by simp [hr]), if_neg hd]
      rw [e]
      cases hfo : farOf ms (wordOf ms s i) 1 with
      | none => exact resolve_far0 b off n c s i _ c2 b2 o2 ms (wordOf ms s i) w hs hn hf hw hsn hil rfl hbw h2 h1 (h3 i hil) hx hr hd hfo
      | some r =>
        obtain ⟨t, pad⟩ := r
        obtain ⟨ht, hp⟩ := farOf_facts hfo hx.1
        obtain ⟨b3, o3, c3, g1, g2, g3⟩ := SegsAt.word hcell t ht (by omega)
        exact resolve_far1 b off n c s i _ c2 b2 o2 ms (wordOf ms s i) w hs hn hf hw hsn hil rfl hbw h2 h1 (h3 i hil) hx hr t pad _ c3 b3 o3 (wordOf ms t pad) hd hfo (by omega) (by omega) rfl g2 g1 (g3 pad (by omega)) rfl (wds_bd (hw t) pad) (.inr ⟨b3, o3, rfl, g3⟩)
  · have e : resolveOf ms s i = nearOf ms s i := by unfold resolveOf; rw [if_pos hr]
    rw [e]
    exact resolve_near b off n c s i _ c2 b2 o2 ms (wordOf ms s i) w hs hn hf hw hsn hil rfl hbw h2 h1 (h3 i hil) rfl hx (.inr ⟨b2, o2, rfl, h3⟩) hr

set_option maxHeartbeats 4000000 in
set_option maxRecDepth 100000 in
theorem resolve_any (a : Option Addr) (n c s i : Nat) (ms : List (List Int)) (w : World) (hs : SegsAt w a ms) (hn : ms.length = n) (hn9 : n ≤ 9) (hw : ∀ i, Wds (ms.getD i [])) (hs8 : s < 256) (hi : i < 65536) (hlm : ∀ i, (ms.getD i []).length ≤ 9223372036854775807) :
    Calls Fagg.prog 27 #[.slice a n c, .int .u8 (s : Int), .int .u16 (i : Int)] w fun e w' => e = .returned (spRes (resolveB ms s i)) ∧ Below w.heap.size w w' := by
  by_cases hin : fitsOf ms = true ∧ s < ms.length ∧ i < (ms.getD s []).length
  · have e : resolveB ms s i = resolveOf ms s i := by unfold resolveB; rw [if_pos hin]
    rw [e]
    exact resolve_in a n c s i ms w hs hn hin.1 hw (by omega) hin.2.2
  have HF := hide (show resolveB ms s i = none by unfold resolveB; rw [if_neg hin])
  have HFIT := hide (fun W (hW : Below w.heap.size w W) => fits_any a n c ms W (hs.below hW) hn)
  cases hf : fitsOf ms with
  | false =>
    rw [hf] at HFIT
    go_enter Fagg.func27, Fagg.ntmps27
    go_wp2_with (go_at_call 66; with_reducible refine (unhide HFIT _ ?_).mono ?_; exact (((Below.refl _ _).alloc (Nat.le_refl _) _).alloc (by simp) _); rintro e w1 ⟨rfl, hw1⟩; subst hw1)
    exact bodyPost_ret (v := spRes none) (by simp [results, Fagg.results27, go_sem, spRes, spP, padV, Sp.nil, Pt.nil]) rfl ⟨by rw [unhide HF], (((Below.refl _ _).alloc (Nat.le_refl _) _).alloc (by simp) _)⟩
  | true =>
    have hff := fits_facts hf
    rw [hf] at HFIT
    by_cases hsn : s < n
    · have e1 : ¬ (s : Int) ≥ (n : Int) := by omega
      obtain ⟨b, off, rfl, hbw, hcell⟩ := hs.get (by omega)
      obtain ⟨ai, ci, hci, _, _⟩ := hcell s (by omega)
      have hls := hlm s
      have e2 : (i : Int) ≥ ((ms.getD s []).length : Int) := by
        have : ¬ i < (ms.getD s []).length := fun h => hin ⟨hf, by omega, h⟩
        omega
      generalize (ms.getD s []).length = L at *
      have HC := hide hcell
      clear hcell hin
      go_enter Fagg.func27, Fagg.ntmps27
      go_wp2_with (go_at_call 66; with_reducible refine (unhide HFIT _ ?_).mono ?_; exact (((Below.refl _ _).alloc (Nat.le_refl _) _).alloc (by simp) _); rintro e w1 ⟨rfl, hw1⟩; obtain ⟨hL, hZ⟩ := two_made hw1; clear hw1; obtain ⟨⟨a0, a1, a2, a3, a4, a5, a6, e0, e1, e2, e3, e4, e5, e6⟩, ⟨z0, z1, z2, y0, y1, y2⟩⟩ := hZ; have d1 := (hL.cell (p := ⟨b, off + s, none⟩) hbw).trans hci)
      exact bodyPost_ret (v := spRes none) (by simp [results, Fagg.results27, go_sem, spRes, spP, padV, Sp.nil, Pt.nil, a0, a1, a2, a3, a4, a5, a6, e0, e1, e2, e3, e4, e5, e6, z0, z1, z2, y0, y1, y2]) rfl ⟨by rw [unhide HF], below_set73 hL (by omega) (by omega) _ _ _ _ _ _ _ _ _ _⟩
    · have e1 : (s : Int) ≥ (n : Int) := by omega
      clear hin
      go_enter Fagg.func27, Fagg.ntmps27
      go_wp2_with (go_at_call 66; with_reducible refine (unhide HFIT _ ?_).mono ?_; exact (((Below.refl _ _).alloc (Nat.le_refl _) _).alloc (by simp) _); rintro e w1 ⟨rfl, hw1⟩; subst hw1)
      exact bodyPost_ret (v := spRes none) (by simp [results, Fagg.results27, go_sem, spRes, spP, padV, Sp.nil, Pt.nil]) rfl ⟨by rw [unhide HF], (((Below.refl _ _).alloc (Nat.le_refl _) _).alloc (by simp) _)⟩
end Go.Proofs.Ygcfag
