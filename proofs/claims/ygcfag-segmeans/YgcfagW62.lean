/-
  WALKS: seg.walk's follow: all but lists of structs.
-/
import Derived.Test.YgcfagW61
import Derived.Test.YgcfagW40
namespace Go.Proofs.Ygcfag
open Go.RowKit
set_option linter.unusedVariables false
set_option linter.unusedSimpArgs false

/-- Of what was there nothing but the stack has turned; there may be more memory. -/
structure WroteG (g : Nat) (w w' : World) : Prop where
  cell : ∀ b p, b < w.heap.size → b ≠ g ∨ p < 32 ∨ 800 < p → w'.cell? ⟨b, p, none⟩ = w.cell? ⟨b, p, none⟩
  frozen : ∀ b p, b < w.heap.size → w'.frozen? ⟨b, p, none⟩ = w.frozen? ⟨b, p, none⟩
  size : w.heap.size ≤ w'.heap.size
  bel : ∀ B, B ≤ g → B ≤ w.heap.size → Below B w w'
theorem WroteG.of {g : Nat} {w u w' : World} (hb : Below w.heap.size w u) (h : WroteS g u w') : WroteG g w w' :=
  ⟨fun b p hb' hp => (h.cell b p hp).trans (hb.cell (p := ⟨b, p, none⟩) hb'), fun b p hb' => (h.frozen b p).trans (hb.frozen (p := ⟨b, p, none⟩) hb'), by have := h.size; have := hb.size; omega, fun B h1 h2 => (hb.mono h2).trans (h.bel B h1)⟩
theorem StackAt.below {w u : World} {g : Nat} {L : List (Nat × Nat × Nat)} (h : StackAt w g L) (hb : Below w.heap.size w u) : StackAt u g L := by
  have hg := World.block_lt_of_cell? w _ h.cnt
  have hc : ∀ p, u.cell? ⟨g, p, none⟩ = w.cell? ⟨g, p, none⟩ := fun p => hb.cell (p := ⟨g, p, none⟩) hg
  have hf : ∀ p, u.frozen? ⟨g, p, none⟩ = w.frozen? ⟨g, p, none⟩ := fun p => hb.frozen (p := ⟨g, p, none⟩) hg
  exact ⟨h.le, (hc _).trans h.cnt, (hf _).trans h.cntf, fun p h1 h2 => ⟨by rw [hc]; exact (h.room p h1 h2).1, by rw [hf]; exact (h.room p h1 h2).2⟩, fun i hi => (hc _).trans (h.c0 i hi), fun i hi => (hc _).trans (h.c1 i hi), fun i hi => (hc _).trans (h.c2 i hi)⟩

theorem bel_two (w : World) (o1 o2 : Obj) : Below w.heap.size w ((w.alloc o1).alloc o2) := (((Below.refl _ _).alloc (Nat.le_refl _) _).alloc (by simp) _)

set_option maxHeartbeats 1000000 in
set_option maxRecDepth 100000 in
theorem follow_struct (g s dep d p at_ : Nat) (L : List (Nat × Nat × Nat)) (w : World) (hst : StackAt w g L) (hs : s < 256) (hd : d ≤ 8) (hp : p ≤ 8) (hat : at_ + d + p ≤ 256) (hL : L.length + p ≤ 256) :
    Calls Fagg.prog 79 #[.pointer (some ⟨g, 0, none⟩), spP (s : Int) ⟨1, (at_ : Int), (d : Int), (p : Int), 0, 0⟩, .int .u8 (dep : Int)] w fun e w' => e = .returned (.tuple #[]) ∧ StackAt w' g (L ++ pushed s (at_ + d) dep p) ∧ WroteG g w w' := by
  have HP := hide (fun W (hW : Below w.heap.size w W) => push_any g s (at_ + d) p dep L W (hst.below hW) (by omega) hL)
  have hcast : ((at_ + d : Nat) : Int) = (at_ : Int) + (d : Int) := by omega
  rw [hcast] at HP
  clear hst hcast
  unfold spP
  go_enter Fagg.func79, Fagg.ntmps79
  go_wp2_with (go_at_call 75; with_reducible refine (unhide HP _ (bel_two w _ _)).mono ?_; rintro e w1 ⟨rfl, h1, h2⟩; have H1 := hide h1; have H2 := hide (WroteG.of (bel_two w _ _) h2); clear h1 h2)
  exact bodyPost_end (v := .tuple #[]) (by simp [results, Fagg.results79, go_sem]) rfl ⟨rfl, unhide H1, unhide H2⟩

set_option maxHeartbeats 1000000 in
set_option maxRecDepth 100000 in
theorem follow_ptrs (g s dep n at_ : Nat) (L : List (Nat × Nat × Nat)) (w : World) (hst : StackAt w g L) (hs : s < 256) (hn : n ≤ 128) (hat : at_ + n ≤ 256) (hL : L.length + n ≤ 256) :
    Calls Fagg.prog 79 #[.pointer (some ⟨g, 0, none⟩), spP (s : Int) ⟨2, (at_ : Int), 0, 0, 6, (n : Int)⟩, .int .u8 (dep : Int)] w fun e w' => e = .returned (.tuple #[]) ∧ StackAt w' g (L ++ pushed s at_ dep n) ∧ WroteG g w w' := by
  have HP := hide (fun W (hW : Below w.heap.size w W) => push_any g s at_ n dep L W (hst.below hW) (by omega) hL)
  clear hst
  unfold spP
  go_enter Fagg.func79, Fagg.ntmps79
  go_wp2_with (go_at_call 75; with_reducible refine (unhide HP _ (bel_two w _ _)).mono ?_; rintro e w1 ⟨rfl, h1, h2⟩; have H1 := hide h1; have H2 := hide (WroteG.of (bel_two w _ _) h2); clear h1 h2)
  exact bodyPost_end (v := .tuple #[]) (by simp [results, Fagg.results79, go_sem]) rfl ⟨rfl, unhide H1, unhide H2⟩

set_option maxHeartbeats 1000000 in
set_option maxRecDepth 100000 in
theorem follow_plain (g s dep n at_ cd : Nat) (L : List (Nat × Nat × Nat)) (w : World) (hst : StackAt w g L) (hcd : 2 ≤ cd ∧ cd ≤ 5) :
    Calls Fagg.prog 79 #[.pointer (some ⟨g, 0, none⟩), spP (s : Int) ⟨2, (at_ : Int), 0, 0, (cd : Int), (n : Int)⟩, .int .u8 (dep : Int)] w fun e w' => e = .returned (.tuple #[]) ∧ StackAt w' g L ∧ WroteG g w w' := by
  have HS := hide (fun W (hW : Below w.heap.size w W) => hst.below hW)
  have e6 : ((cd : Int) == 6) = false := by simp; omega
  have e7 : ((cd : Int) == 7) = false := by simp; omega
  clear hst
  unfold spP
  go_enter Fagg.func79, Fagg.ntmps79
  go_wp2_with fail
  exact bodyPost_end (v := .tuple #[]) (by simp [results, Fagg.results79, go_sem]) rfl ⟨rfl, unhide HS _ (bel_two w _ _), WroteG.of (bel_two w _ _) (WroteS.refl _ _)⟩
end Go.Proofs.Ygcfag
