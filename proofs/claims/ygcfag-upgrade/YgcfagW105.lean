/-
  WALKS: codec.canon's push, sections, kids.
-/
import Derived.Test.YgcfagW104
import Derived.Deep.RegionLaw
namespace Go.Proofs.Ygcfag
open Go.RowKit
set_option linter.unusedVariables false
set_option linter.unusedSimpArgs false

theorem CanAt.setN {w0 w : World} {C G O N : Nat} {A : Option Addr} {t c' capG : Nat} {zs arr : List Int} {nn : Int} (h : CanAt w0 w C G O N A t c' capG zs arr nn) (v : Int) : CanAt w0 (w.setCell ⟨C, 1026, none⟩ (.int .i64 v)) C G O N A t c' capG zs arr v := by
  have c : ∀ b p, (b ≠ C ∨ p ≠ 1026) → (w.setCell ⟨C, 1026, none⟩ (.int .i64 v)).cell? ⟨b, p, none⟩ = w.cell? ⟨b, p, none⟩ := fun b p hb => World.cell?_setCell_other _ _ _ _ (fun e => by simp only [Addr.mk.injEq] at e; omega)
  have hb : Below w0.heap.size w0 (w.setCell ⟨C, 1026, none⟩ (.int .i64 v)) := h.bel.setCell h.cb _
  exact ⟨hb, h.tr.other C h.cr.1 h.cr.2.1 h.cr.2.2 (fun b p hb _ => c b p (.inl hb)), (c _ _ (.inr (by omega))).trans h.c0, (c _ _ (.inr (by omega))).trans h.c1, (c _ _ (.inr (by omega))).trans h.c2, (c _ _ (.inr (by omega))).trans h.c3, cell_same _ _ _ _ _ h.cn, fun p hp => by rw [frozen_set]; exact h.fz p hp, ownsRow_setCell_other h.own (by simp [Value.ownBlock]; exact Ne.symm h.cg) _, h.cb, h.cg, h.cr, h.gr, fun x hx => by simpa using h.al x hx⟩

theorem CanAt.set2 {w0 w : World} {C G O N : Nat} {A : Option Addr} {t c' capG : Nat} {zs arr : List Int} {nn : Int} (h : CanAt w0 w C G O N A t c' capG zs arr nn) : CanAt w0 (w.setCell ⟨C, 2, none⟩ (.int .u16 0)) C G O N A t c' capG zs arr nn := by
  have c : ∀ b p, (b ≠ C ∨ p ≠ 2) → (w.setCell ⟨C, 2, none⟩ (.int .u16 0)).cell? ⟨b, p, none⟩ = w.cell? ⟨b, p, none⟩ := fun b p hb => World.cell?_setCell_other _ _ _ _ (fun e => by simp only [Addr.mk.injEq] at e; omega)
  have hb : Below w0.heap.size w0 (w.setCell ⟨C, 2, none⟩ (.int .u16 0)) := h.bel.setCell h.cb _
  exact ⟨hb, h.tr.other C h.cr.1 h.cr.2.1 h.cr.2.2 (fun b p hb _ => c b p (.inl hb)), (c _ _ (.inr (by omega))).trans h.c0, (c _ _ (.inr (by omega))).trans h.c1, cell_same _ _ _ _ _ h.c2, (c _ _ (.inr (by omega))).trans h.c3, (c _ _ (.inr (by omega))).trans h.cn, fun p hp => by rw [frozen_set]; exact h.fz p hp, ownsRow_setCell_other h.own (by simp [Value.ownBlock]; exact Ne.symm h.cg) _, h.cb, h.cg, h.cr, h.gr, fun x hx => by simpa using h.al x hx⟩

theorem CanAt.set3 {w0 w : World} {C G O N : Nat} {A : Option Addr} {t c' capG : Nat} {zs arr : List Int} {nn : Int} (h : CanAt w0 w C G O N A t c' capG zs arr nn) : CanAt w0 (w.setCell ⟨C, 3, none⟩ (.int .i16 0)) C G O N A t c' capG zs arr nn := by
  have c : ∀ b p, (b ≠ C ∨ p ≠ 3) → (w.setCell ⟨C, 3, none⟩ (.int .i16 0)).cell? ⟨b, p, none⟩ = w.cell? ⟨b, p, none⟩ := fun b p hb => World.cell?_setCell_other _ _ _ _ (fun e => by simp only [Addr.mk.injEq] at e; omega)
  have hb : Below w0.heap.size w0 (w.setCell ⟨C, 3, none⟩ (.int .i16 0)) := h.bel.setCell h.cb _
  exact ⟨hb, h.tr.other C h.cr.1 h.cr.2.1 h.cr.2.2 (fun b p hb _ => c b p (.inl hb)), (c _ _ (.inr (by omega))).trans h.c0, (c _ _ (.inr (by omega))).trans h.c1, (c _ _ (.inr (by omega))).trans h.c2, cell_same _ _ _ _ _ h.c3, (c _ _ (.inr (by omega))).trans h.cn, fun p hp => by rw [frozen_set]; exact h.fz p hp, ownsRow_setCell_other h.own (by simp [Value.ownBlock]; exact Ne.symm h.cg) _, h.cb, h.cg, h.cr, h.gr, fun x hx => by simpa using h.al x hx⟩

theorem CanAt.set1 {w0 w : World} {C G O N : Nat} {A : Option Addr} {t c' capG : Nat} {zs arr : List Int} {nn : Int} (h : CanAt w0 w C G O N A t c' capG zs arr nn) : CanAt w0 (w.setCell ⟨C, 1, none⟩ (.slice (some ⟨G, 0, none⟩) arr.length capG)) C G O N A t c' capG zs arr nn := by
  have c : ∀ b p, (b ≠ C ∨ p ≠ 1) → (w.setCell ⟨C, 1, none⟩ (.slice (some ⟨G, 0, none⟩) arr.length capG)).cell? ⟨b, p, none⟩ = w.cell? ⟨b, p, none⟩ := fun b p hb => World.cell?_setCell_other _ _ _ _ (fun e => by simp only [Addr.mk.injEq] at e; omega)
  have hb : Below w0.heap.size w0 (w.setCell ⟨C, 1, none⟩ (.slice (some ⟨G, 0, none⟩) arr.length capG)) := h.bel.setCell h.cb _
  exact ⟨hb, h.tr.other C h.cr.1 h.cr.2.1 h.cr.2.2 (fun b p hb _ => c b p (.inl hb)), (c _ _ (.inr (by omega))).trans h.c0, cell_same _ _ _ _ _ h.c1, (c _ _ (.inr (by omega))).trans h.c2, (c _ _ (.inr (by omega))).trans h.c3, (c _ _ (.inr (by omega))).trans h.cn, fun p hp => by rw [frozen_set]; exact h.fz p hp, ownsRow_setCell_other h.own (by simp [Value.ownBlock]; exact Ne.symm h.cg) _, h.cb, h.cg, h.cr, h.gr, fun x hx => by simpa using h.al x hx⟩

theorem CanAt.lt {w0 w : World} {C G O N : Nat} {A : Option Addr} {t c' capG : Nat} {zs arr : List Int} {nn : Int} (h : CanAt w0 w C G O N A t c' capG zs arr nn) : C < w.heap.size := World.block_lt_of_cell? w _ h.c0
theorem CanAt.below {w0 w : World} {C G O N : Nat} {A : Option Addr} {t c' capG : Nat} {zs arr : List Int} {nn : Int} (h : CanAt w0 w C G O N A t c' capG zs arr nn) {w' : World} (hb : Below w.heap.size w w') : CanAt w0 w' C G O N A t c' capG zs arr nn := by
  have hC := h.lt
  have c : ∀ p, w'.cell? ⟨C, p, none⟩ = w.cell? ⟨C, p, none⟩ := fun p => hb.cell (p := ⟨C, p, none⟩) hC
  exact ⟨h.bel.trans (hb.mono h.bel.size), h.tr.below hb, (c _).trans h.c0, (c _).trans h.c1, (c _).trans h.c2, (c _).trans h.c3, (c _).trans h.cn, fun p hp => (hb.frozen (p := ⟨C, p, none⟩) hC).trans (h.fz p hp), owns_below h.own hb, h.cb, h.cg, h.cr, h.gr, fun x hx => Nat.lt_of_lt_of_le (h.al x hx) hb.size⟩

set_option maxHeartbeats 1000000 in
set_option maxRecDepth 100000 in
theorem cpush_any {w0 w : World} {C G O N : Nat} {A : Option Addr} {t c' capG : Nat} {zs arr : List Int} (h : CanAt w0 w C G O N A t c' capG zs arr 0) :
    Calls Fagg.prog 91 #[.pointer (some ⟨C, 0, none⟩), .int .u16 0, .int .i16 0] w fun e w' => e = .returned (.tuple #[]) ∧ CanAt w0 w' C G O N A t c' capG zs arr 1 := by
  have n0 := h.cn
  have a2 := h.c2
  have a3 := h.c3
  have f2 := h.fz 2 (by omega)
  have f3 := h.fz 3 (by omega)
  have fn := h.fz 1026 (by omega)
  have H := hide h
  clear h
  go_enter Fagg.func91, Fagg.ntmps91
  go_wp2_with fail
  go_region
  go_wp2_with fail
  exact bodyPost_end (v := .tuple #[]) (by simp [results, Fagg.results91, go_sem]) rfl ⟨rfl, (((unhide H).set2.set3).setN 1).below (Below.refl _ _).drew⟩

set_option maxHeartbeats 1000000 in
set_option maxRecDepth 100000 in
theorem ckids_any (C O N cap d capd : Nat) (A : Option Addr) (ys : List Int) (w : World) (ht : TreeAt w O N cap A d capd ys) (hd : d ≤ 8) :
    Calls Fagg.prog 160 #[.pointer (some ⟨C, 0, none⟩), .int .u16 1, .pointer (some ⟨N, 0, none⟩)] w fun e w' => e = .returned (.tuple #[]) ∧ w' = w := by
  have k2 := ht.k2
  have k3 := ht.k3
  have wd : IntKind.u16.wrap (d : Int) = (d : Int) := by rw [IntKind.wrap_u16]; omega
  have wd1 : IntKind.u16.wrap (1 + (d : Int)) = 1 + (d : Int) := by rw [IntKind.wrap_u16]; omega
  clear ht
  go_enter Fagg.func160, Fagg.ntmps160
  go_wp2_with fail
  go_loopw [7] (fun s wr => s = .int .i64 (-1) ∧ wr = w) (fun _ _ => 0)
  case atStart => exact ⟨rfl, rfl⟩
  case round =>
    obtain ⟨rfl, rfl⟩ := hrel
    go_wp2_with fail
    exact bodyPost_end (v := .tuple #[]) (by simp [results, Fagg.results160, go_sem]) rfl ⟨rfl, rfl⟩

theorem CanAt.grown {w0 w w' : World} {C G O N g : Nat} {A : Option Addr} {t c' capG cap : Nat} {zs arr arr' : List Int} {nn : Int} (h : CanAt w0 w C G O N A t c' capG zs arr nn) (ho : w'.ownsRow w0.heap.size 32 1 (.slice (some ⟨g, 0, none⟩) arr'.length cap) arr'.length (arr'.map (Value.int .u64))) (hg : w.grownBy w' (some G)) (hat : g = G ∨ w.heap.size ≤ g) (hG : w0.heap.size ≤ G) :
    CanAt w0 (w'.setCell ⟨C, 1, none⟩ (.slice (some ⟨g, 0, none⟩) arr'.length cap)) C g O N A t c' cap zs arr' nn := by
  have hC := h.lt
  have hO := World.block_lt_of_cell? w _ h.tr.n
  have hN := World.block_lt_of_cell? w _ h.tr.k0
  simp only at hO hN
  have cf : ∀ b p, b ≠ G → b < w.heap.size → w'.cell? ⟨b, p, none⟩ = w.cell? ⟨b, p, none⟩ := fun b p hb hl => hg.cell_far ⟨b, p, none⟩ hl (fun e => hb (Option.some.inj e))
  have ff : ∀ p, w'.frozen? ⟨C, p, none⟩ = w.frozen? ⟨C, p, none⟩ := fun p => hg.frozen_far ⟨C, p, none⟩ hC (fun e => h.cg (Option.some.inj e))
  have cc : ∀ p, w'.cell? ⟨C, p, none⟩ = w.cell? ⟨C, p, none⟩ := fun p => cf C p h.cg hC
  have hgC : C ≠ g := by
    rcases hat with h1 | h1
    · rw [h1]; exact h.cg
    · omega
  have c : ∀ b p, (b ≠ C ∨ p ≠ 1) → (w'.setCell ⟨C, 1, none⟩ (.slice (some ⟨g, 0, none⟩) arr'.length cap)).cell? ⟨b, p, none⟩ = w'.cell? ⟨b, p, none⟩ := fun b p hb => World.cell?_setCell_other _ _ _ _ (fun e => by simp only [Addr.mk.injEq] at e; omega)
  have htr : TreeAt w' O N 1 A t c' zs := h.tr.other G h.gr.1 h.gr.2.1 h.gr.2.2 cf
  have hbl : Below w0.heap.size w0 w' := h.bel.grown hg h.bel.size (fun k hk => by cases hk; exact hG)
  have hsz := hg.size
  refine ⟨hbl.setCell h.cb _, htr.other C h.cr.1 h.cr.2.1 h.cr.2.2 (fun b p hb _ => c b p (.inl hb)), (c _ _ (.inr (by omega))).trans ((cc _).trans h.c0), cell_same _ _ _ _ _ ((cc _).trans h.c1), (c _ _ (.inr (by omega))).trans ((cc _).trans h.c2), (c _ _ (.inr (by omega))).trans ((cc _).trans h.c3), (c _ _ (.inr (by omega))).trans ((cc _).trans h.cn), fun p hp => by rw [frozen_set]; exact (ff p).trans (h.fz p hp), ownsRow_setCell_other ho (by simp [Value.ownBlock]; exact Ne.symm hgC) _, h.cb, hgC, h.cr, ?_, fun x hx => by simpa using Nat.lt_of_lt_of_le (h.al x hx) hsz⟩
  rcases hat with h1 | h1
  · rw [h1]; exact h.gr
  · exact ⟨by omega, by omega, fun x hx => by have := h.al x hx; omega⟩
theorem csec_fin {w0 w w4 : World} {C G O N b4 : Nat} {A : Option Addr} {t c' capG cap4 : Nat} {zs arr : List Int} {nn : Int} (h : CanAt w0 w C G O N A t c' capG zs arr nn) (ho : w4.ownsRow w0.heap.size 32 1 (.slice (some ⟨b4, 0, none⟩) (arr.length + t) cap4) (arr.length + t) (arr.map (Value.int .u64) ++ zs.map (Value.int .u64))) (hg : w.drew.grownBy w4 (Value.slice (some ⟨G, 0, none⟩) arr.length capG).ownBlock) (hat : (Value.slice (some ⟨G, 0, none⟩) arr.length capG).ownBlock = some b4 ∨ b4 = w.heap.size) :
    w4.cell? ⟨N, 3, none⟩ = some (.slice none 0 0) ∧ CanAt w0 (w4.setCell ⟨C, 1, none⟩ (.slice (some ⟨b4, 0, none⟩) (arr.length + t) cap4)) C b4 O N A t c' cap4 zs (arr ++ zs) nn := by
  have hn : arr.length + t = (arr ++ zs).length := by rw [List.length_append, h.tr.len]
  have hNw : N < w.heap.size := World.block_lt_of_cell? w _ h.tr.k0
  refine ⟨(hg.cell_far ⟨N, 3, none⟩ hNw (fun e => h.gr.2.1 (Option.some.inj e).symm)).trans h.tr.k3, ?_⟩
  rw [hn] at ho ⊢
  rw [← List.map_append] at ho
  exact (h.below (Below.refl _ _).drew).grown ho hg (by
    rcases hat with h1 | h1
    · left; exact (Option.some.inj h1).symm
    · right; rw [h1]; exact Nat.le_refl _) (h.own.lt G rfl).1

set_option maxHeartbeats 1000000 in
set_option maxRecDepth 100000 in
theorem csec_pos {w0 w : World} {C G O N : Nat} {A : Option Addr} {t c' capG : Nat} {zs arr : List Int} {nn : Int} (h : CanAt w0 w C G O N A t c' capG zs arr nn) (h0 : 0 < t) (ht : t ≤ 8) (ha : arr.length ≤ 8) :
    Calls Fagg.prog 159 #[.pointer (some ⟨C, 0, none⟩), .pointer (some ⟨N, 0, none⟩)] w fun e w' => e = .returned (.tuple #[]) ∧ ∃ G' cap', CanAt w0 w' C G' O N A t c' cap' zs (arr ++ zs) nn := by
  obtain ⟨b, o, hA, hc⟩ := h.tr.dat.at (i := 0) (by rw [h.tr.len]; exact h0)
  subst hA
  have c1 := h.c1
  have f1 := h.fz 1 (by omega)
  have k2 := h.tr.k2
  have k3 := h.tr.k3
  have hCG := h.cg
  have hCw := h.lt
  have hNG : N ≠ G := Ne.symm h.gr.2.1
  have hNC : N ≠ C := Ne.symm h.cr.2.1
  have hNw : N < w.heap.size := World.block_lt_of_cell? w _ h.tr.k0
  have HL : Hid (zs.length = t) := hide h.tr.len
  have HNW : Hid (∀ (j : Nat) (u : Value), (zs.map (Value.int .u64))[j]? = some u → w.drew.cell? ((⟨b, o, none⟩ : Addr).add j) = some u) := hide (fun j u hu => by
    have hj : j < zs.length := by have := (List.getElem?_eq_some_iff.1 hu).1; simpa using this
    rw [Addr.add_mid, World.cell?_drew, hc j hj, ← hu]
    simp [List.getD, hj])
  have HB0 : Hid (w0.heap.size ≤ w.heap.size) := hide h.bel.size
  have HGb : Hid (w0.heap.size ≤ G) := hide (h.own.lt G rfl).1
  have HOW := hide (h.own.drew)
  have H := hide h
  clear h hc
  obtain ⟨i0, hi0, hz0, hz1, hz2⟩ := info_parts info32
  have hmx : arr.length + t ≤ maxLen := by unfold maxLen; omega
  have hby : (arr.length + t) * 8 ≤ 140737488355328 := by omega
  go_enter Fagg.func159, Fagg.ntmps159
  refine wp_seq_k (fun K0 hK0 => ?_)
  have HC0 := hide hK0
  clear hK0
  go_wp2_with fail
  go_region_law (refine step_append_lies _ (by rfl) _ _ 44 (by rfl) w0.heap.size 32 i0 (.int .u64 0) 1 8 Fagg.underlying44 hi0 hz0 hz1 hz2 rfl (by decide) (.slice (some ⟨G, 0, none⟩) arr.length capG) arr.length (arr.map (Value.int .u64)) (by rfl) (unhide HOW) ⟨b, o, none⟩ t c' (zs.map (Value.int .u64)) (by rfl) (by rw [List.length_map, unhide HL]; omega) (unhide HNW) (ints_oneCell _ _) h0 hmx hby (unhide HB0) w.heap.size rfl ?_; intro b4 cap4 w4 ho4 hg4 hat4 hlt4; have q1 := (hg4.cell_far ⟨C, 1, none⟩ hCw (fun e => hCG (Option.some.inj e))).trans c1; have q1f := (hg4.frozen_far ⟨C, 1, none⟩ hCw (fun e => hCG (Option.some.inj e))).trans f1; have q3 := (hg4.cell_far ⟨N, 3, none⟩ hNw (fun e => hNG (Option.some.inj e))).trans k3; have HO4 := hide ho4; have HG4 := hide hg4; have HAT := hide hat4; clear ho4 hg4 hat4)
  all_goals (have hfin := csec_fin (unhide H) (unhide HO4) (unhide HG4) (unhide HAT))
  all_goals (have hq3 : (w4.setCell ⟨C, 1, none⟩ (.slice (some ⟨b4, 0, none⟩) (arr.length + t) cap4)).cell? ⟨N, 3, none⟩ = some (.slice none 0 0) := (World.cell?_setCell_other _ _ _ _ (fun e => by simp only [Addr.mk.injEq] at e; exact hNC e.1.symm)).trans hfin.1)
  all_goals (refine unhide HC0 _ _ ?_)
  all_goals (clear HC0)
  all_goals (have HFN := hide hfin.2)
  all_goals (clear hfin HO4 HG4 HAT q1 q1f q3)
  all_goals (revert hq3 HFN)
  all_goals (generalize w4.setCell _ _ = w5)
  all_goals (intro hq3 HFN)
  all_goals (go_wp2_with fail)
  all_goals (go_loopw [21] (fun s wx => s = .int .i64 0 ∧ wx = w5) (fun _ _ => 0))
  all_goals (first | exact ⟨rfl, rfl⟩ | (obtain ⟨rfl, rfl⟩ := hrel; go_wp2_with fail; exact bodyPost_end (v := .tuple #[]) (by simp [results, Fagg.results159, go_sem]) rfl ⟨rfl, _, _, unhide HFN⟩))

theorem first_can {w0 w : World} {C G O N : Nat} {A : Option Addr} {t c' capG : Nat} {zs arr : List Int} {nn : Int} (h : CanAt w0 w C G O N A t c' capG zs arr nn) : CanAt w0 (w.setCell ⟨C, 1, none⟩ (.slice (some ⟨G, 0, none⟩) arr.length capG)).drew C G O N A t c' capG zs arr nn := h.set1.below (Below.refl _ _).drew

set_option maxHeartbeats 1000000 in
set_option maxRecDepth 100000 in
theorem csec_zero {w0 w : World} {C G O N : Nat} {A : Option Addr} {c' capG : Nat} {zs arr : List Int} {nn : Int} (h : CanAt w0 w C G O N A 0 c' capG zs arr nn) (ha : arr.length ≤ 8) :
    Calls Fagg.prog 159 #[.pointer (some ⟨C, 0, none⟩), .pointer (some ⟨N, 0, none⟩)] w fun e w' => e = .returned (.tuple #[]) ∧ ∃ G' cap', CanAt w0 w' C G' O N A 0 c' cap' zs (arr ++ zs) nn := by
  have c1 := h.c1
  have f1 := h.fz 1 (by omega)
  have k2 := h.tr.k2
  have k3 := h.tr.k3
  have hNC : ¬ N = C := fun e => h.cr.2.1 e.symm
  have hz : zs = [] := List.length_eq_zero_iff.1 h.tr.len
  subst hz
  have hcap : arr.length ≤ capG := by
    obtain ⟨_, ⟨h2, _⟩ | ⟨g', cap, cur, hv, hB, hg, h3, _⟩⟩ := h.own
    · simp at h2
    · simp only [Value.slice.injEq, Option.some.injEq, Addr.mk.injEq] at hv
      obtain ⟨_, _, rfl⟩ := hv
      exact h3
  have H := hide h
  clear h
  rw [List.append_nil]
  cases A with
  | none =>
    go_enter Fagg.func159, Fagg.ntmps159
    refine wp_seq_k (fun K0 hK0 => ?_)
    have HC0 := hide hK0
    clear hK0
    go_wp2_with fail
    go_region
    all_goals (refine unhide HC0 _ _ ?_)
    all_goals (clear HC0)
    all_goals (refine gen_world _ (fun w' => CanAt w0 w' C G O N none 0 c' capG [] arr nn) (first_can (unhide H)) ?_)
    all_goals (intro w5 h5)
    all_goals (have HFN := hide h5)
    all_goals (have hq3 := h5.tr.k3)
    all_goals (clear h5 c1 f1 k2 k3)
    all_goals (go_wp2_with fail)
    all_goals (go_loopw [21] (fun s wx => s = .int .i64 0 ∧ wx = w5) (fun _ _ => 0))
    all_goals (first | exact ⟨rfl, rfl⟩ | (obtain ⟨rfl, rfl⟩ := hrel; go_wp2_with fail; exact bodyPost_end (v := .tuple #[]) (by simp [results, Fagg.results159, go_sem]) rfl ⟨rfl, _, _, unhide HFN⟩))
  | some x =>
    go_enter Fagg.func159, Fagg.ntmps159
    refine wp_seq_k (fun K0 hK0 => ?_)
    have HC0 := hide hK0
    clear hK0
    go_wp2_with fail
    go_region
    all_goals (refine unhide HC0 _ _ ?_)
    all_goals (clear HC0)
    all_goals (refine gen_world _ (fun w' => CanAt w0 w' C G O N (some x) 0 c' capG [] arr nn) (first_can (unhide H)) ?_)
    all_goals (intro w5 h5)
    all_goals (have HFN := hide h5)
    all_goals (have hq3 := h5.tr.k3)
    all_goals (clear h5 c1 f1 k2 k3)
    all_goals (go_wp2_with fail)
    all_goals (go_loopw [21] (fun s wx => s = .int .i64 0 ∧ wx = w5) (fun _ _ => 0))
    all_goals (first | exact ⟨rfl, rfl⟩ | (obtain ⟨rfl, rfl⟩ := hrel; go_wp2_with fail; exact bodyPost_end (v := .tuple #[]) (by simp [results, Fagg.results159, go_sem]) rfl ⟨rfl, _, _, unhide HFN⟩))
end Go.Proofs.Ygcfag
