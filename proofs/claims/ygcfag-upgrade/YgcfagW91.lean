/-
  WALKS: valid.Claimed and valid.Validate on the arena of a root struct.
-/
import Derived.Test.YgcfagW90
import Derived.Deep.LoopGhost
namespace Go.Proofs.Ygcfag
open Go.RowKit
set_option linter.unusedVariables false
set_option linter.unusedSimpArgs false

theorem there_big (w : World) (cs : List Value) (hl : cs.length = 517) : (w.alloc (.cells zWalk.toArray 294)).there w.heap.size 0 cs.toArray.size := fun j hj => by
  have hj' : j < 517 := by simpa [hl] using hj
  rw [Nat.zero_add, cell_of_row _ _ j zWalk.toArray 294 (0, 0) (heap_alloc_new w _)]
  refine ⟨?_, by simp⟩
  have hz : j < zWalk.length := by rw [zWalk_len]; exact hj'
  rw [List.getElem?_toArray, List.getElem?_eq_getElem hz]; rfl
theorem size_big (cs : List Value) (hl : cs.length = 517) : (Fagg.prog.info? 294).map (·.size) = some cs.toArray.size := by
  rw [show cs.toArray.size = 517 by simpa using hl]; exact size294

theorem claimed_world {w w1 : World} (hb : Below (w.alloc (Obj.cells #[Value.int IntKind.u64 0, Value.int IntKind.u64 0, Value.int IntKind.u64 0, Value.int IntKind.u64 0] 132)).heap.size (w.alloc (Obj.cells #[Value.int IntKind.u64 0, Value.int IntKind.u64 0, Value.int IntKind.u64 0, Value.int IntKind.u64 0] 132)) w1) (cs : List Value) (hc : WalkCs cs) (w2 : World) (h : w2 = (w1.alloc (.cells zWalk.toArray 294)).setCells w1.heap.size 0 cs) :
    Below w.heap.size w w2 ∧ w.heap.size < w1.heap.size ∧ w1.heap.size < w2.heap.size ∧ (∀ p, p < 4 → w2.cell? ⟨w.heap.size, p, none⟩ = some (.int .u64 0) ∧ w2.frozen? ⟨w.heap.size, p, none⟩ = false) ∧ (∀ p, p < 517 → w2.cell? ⟨w1.heap.size, p, none⟩ = cs[p]? ∧ w2.frozen? ⟨w1.heap.size, p, none⟩ = false) := by
  have hs := hb.size
  have hs' : w.heap.size + 1 ≤ w1.heap.size := by simpa using hs
  have hba : Below w.heap.size w w1 := ((Below.refl _ _).alloc (Nat.le_refl _) _).trans (hb.mono (by simp))
  have ht := there_big w1 cs hc.len
  rw [show cs.toArray.size = cs.length by simp] at ht
  have hb3 : Below w1.heap.size w1 w2 := by rw [h]; exact below_setCells _ cs 0 _ ((Below.refl _ _).alloc (Nat.le_refl _) _) (Nat.le_refl _)
  have hr : w2.rangeAt w1.heap.size 0 cs := by rw [h]; exact World.rangeAt_setCells_same _ _ _ _ ht
  have ht2 : w2.there w1.heap.size 0 cs.length := by rw [h]; exact World.there_setCells ht _ _ _
  have hlt : w1.heap.size < w2.heap.size := by
    have := (ht2 0 (by rw [hc.len]; omega)).1
    obtain ⟨v, hv⟩ := Option.isSome_iff_exists.1 this
    exact World.block_lt_of_cell? w2 _ hv
  refine ⟨hba.trans (hb3.mono (by omega)), by omega, hlt, fun p hp => ⟨?_, ?_⟩, fun p hp => ⟨?_, ?_⟩⟩
  · rw [hb3.cell (p := ⟨w.heap.size, p, none⟩) (by show w.heap.size < _; omega), hb.cell (p := ⟨w.heap.size, p, none⟩) (by simp)]
    match p, hp with
    | 0, _ => simp
    | 1, _ => simp
    | 2, _ => simp
    | 3, _ => simp
  · rw [hb3.frozen (p := ⟨w.heap.size, p, none⟩) (by show w.heap.size < _; omega), hb.frozen (p := ⟨w.heap.size, p, none⟩) (by simp)]; simp
  · have hp' : p < cs.length := by rw [hc.len]; exact hp
    have := hr p cs[p] (List.getElem?_eq_getElem hp')
    rw [Nat.zero_add] at this
    rw [this, List.getElem?_eq_getElem hp']
  · have := (ht2 p (by rw [hc.len]; exact hp)).2
    rw [Nat.zero_add] at this; exact this

set_option maxHeartbeats 1000000 in
set_option maxRecDepth 100000 in
theorem claimed1_any (a : Option Addr) (n c d : Nat) (xs : List Int) (w : World) (hs : Sl .u64 w a xs) (hn : xs.length = n) (hw : Wds xs) (hd : d ≤ 8) (hl : n = d + 1) (hx : xs.getD 0 0 = (rootW d : Int)) :
    Calls Fagg.prog 95 #[.slice a n c] w fun e w' => ∃ x : Int, e = .returned (.tuple #[.agg #[.int .u64 x, .int .u64 0, .int .u64 0, .int .u64 0], .bool true]) ∧ Below w.heap.size w w' := by
  have HST := hide (fun W => start_any a n c W (by omega) (by omega))
  have HN := hide hn
  have HL := hide hl
  have HX := hide hx
  clear hn hl hx
  go_enter Fagg.func95, Fagg.ntmps95
  refine wp_seq_k (fun K0 hK0 => ?_)
  have HC0 := hide hK0
  clear hK0
  go_wp2_with fail
  refine unhide HC0 _ _ ?_
  clear HC0
  refine wp_seq_k (fun K0 hK0 => ?_)
  have HC0 := hide hK0
  clear hK0
  go_wp2_with (first | (go_at_call 170; with_reducible refine (unhide HST _).mono ?_; rintro e w1 ⟨cs, rfl, hwc, hb1⟩; have HWC := hide hwc; have HB1 := hide hb1; clear hwc hb1) | (refine wpList_alloc_big info294 rfl rfl ?_; simp only [Act.put, List.setIfInBounds_toArray, List.set_cons_zero, List.set_cons_succ]) | (refine wpList_store_mid rfl 294 _ _ rfl w1.heap.size 0 cs.toArray rfl rfl (there_big w1 cs (unhide HWC).len) (size_big cs (unhide HWC).len) (all_oneCell_toArray (unhide HWC).one) ?_; simp only [Act.put]))
  refine unhide HC0 _ _ ?_
  clear HC0
  refine gen_world _ (fun w' => Below w.heap.size w w' ∧ w.heap.size < w1.heap.size ∧ w1.heap.size < w'.heap.size ∧ (∀ p, p < 4 → w'.cell? ⟨w.heap.size, p, none⟩ = some (.int .u64 0) ∧ w'.frozen? ⟨w.heap.size, p, none⟩ = false) ∧ (∀ p, p < 517 → w'.cell? ⟨w1.heap.size, p, none⟩ = cs[p]? ∧ w'.frozen? ⟨w1.heap.size, p, none⟩ = false)) (claimed_world (unhide HB1) cs (unhide HWC) _ (by simp)) ?_
  rintro w2 ⟨hb2, hgt, hs2, hr2, hg2⟩
  obtain ⟨r0, s0⟩ := hr2 0 (by omega)
  obtain ⟨r1, s1⟩ := hr2 1 (by omega)
  obtain ⟨r2, s2⟩ := hr2 2 (by omega)
  obtain ⟨r3, s3⟩ := hr2 3 (by omega)
  have hwc := unhide HWC
  have b0 := (hg2 0 (by omega)).1.trans hwc.c0
  have b1 := (hg2 1 (by omega)).1.trans hwc.c1
  have b2 := (hg2 2 (by omega)).1.trans hwc.c2
  have b3 := (hg2 3 (by omega)).1.trans hwc.c3
  have b4 := (hg2 4 (by omega)).1.trans hwc.c4
  have b5 := (hg2 5 (by omega)).1.trans hwc.c5
  have b6 := (hg2 516 (by omega)).1.trans hwc.c516
  generalize hg : w1.heap.size = g at *
  have HSTP := hide (step1_any g a n c d xs w2 (hs.below hb2) (unhide HN) hw hd (unhide HL) (unhide HX) (fun W hW => hs.below (hb2.trans (hW.bel _ (by omega) hb2.size))) b0 b4 b5 b6 (hg2 0 (by omega)).2 (hg2 516 (by omega)).2)
  have HB2 := hide hb2
  clear hg hs hw hd hr2 hg2 hwc hb2 HB1 HWC b4 b5 HN HL HX HST
  go_wp2_with fail
  go_loopg [3] 1 (fun k s wr => s = .bool true ∧ ((k = 1 ∧ wr = w2) ∨ (k = 0 ∧ Hid (KeptAt g (fun p => p = 0 ∨ p = 516) w2 wr ∧ wr.cell? ⟨g, 516, none⟩ = some (.int .u16 0) ∧ ∃ x : Int, wr.cell? ⟨g, 0, none⟩ = some (.int .u64 x)))))
  case atStart => exact ⟨rfl, .inl ⟨rfl, rfl⟩⟩
  case round =>
    obtain ⟨rfl, ⟨rfl, hwr⟩ | ⟨rfl, HK⟩⟩ := hrel
    · have b6' : wr.cell? ⟨g, 516, none⟩ = some (.int .u16 1) := by rw [hwr]; exact b6
      rw [← hwr] at HSTP
      have HWR := hide hwr
      clear hwr
      go_wp2_with (go_at_call 171; with_reducible refine (unhide HSTP).mono ?_; rintro e w3 ⟨rfl, hrest⟩; have HRE := hide hrest; clear hrest)
      go_roundg 0
      case rel => exact ⟨rfl, .inr ⟨rfl, hide (by rw [← unhide HWR]; exact unhide HRE)⟩⟩
      case measure => omega
    · obtain ⟨hk, e6, x, e0⟩ := unhide HK
      have e1 := (hk.cell g 1 hs2 (.inr (by omega))).trans b1
      have e2 := (hk.cell g 2 hs2 (.inr (by omega))).trans b2
      have e3 := (hk.cell g 3 hs2 (.inr (by omega))).trans b3
      have hne : w.heap.size ≠ g := by omega
      have hlt : w.heap.size < w2.heap.size := by omega
      have o0 := (hk.cell w.heap.size 0 hlt (.inl hne)).trans r0
      have o1 := (hk.cell w.heap.size 1 hlt (.inl hne)).trans r1
      have o2 := (hk.cell w.heap.size 2 hlt (.inl hne)).trans r2
      have o3 := (hk.cell w.heap.size 3 hlt (.inl hne)).trans r3
      have p0 := (hk.frozen w.heap.size 0 hlt).trans s0
      have p1 := (hk.frozen w.heap.size 1 hlt).trans s1
      have p2 := (hk.frozen w.heap.size 2 hlt).trans s2
      have p3 := (hk.frozen w.heap.size 3 hlt).trans s3
      have HBB := hide ((unhide HB2).trans (hk.bel _ (by omega) (unhide HB2).size))
      clear hk r0 r1 r2 r3 s0 s1 s2 s3 b0 b1 b2 b3 b6
      go_wp2_with fail
      refine bodyPost_ret (v := .tuple #[.agg #[.int .u64 x, .int .u64 0, .int .u64 0, .int .u64 0], .bool true]) (by simp [results, Fagg.results95, go_sem, o0, o1, o2, o3]) rfl ⟨_, rfl, ?_⟩
      exact ((((unhide HBB).setCell (Nat.le_refl _) _).setCell (Nat.le_refl _) _).setCell (Nat.le_refl _) _).setCell (Nat.le_refl _) _

set_option maxHeartbeats 1000000 in
/-- valid.Validate takes the arena of a root struct. -/
theorem valid1_any (a : Option Addr) (n c d : Nat) (xs : List Int) (w : World) (hs : Sl .u64 w a xs) (hn : xs.length = n) (hw : Wds xs) (hd : d ≤ 8) (hl : n = d + 1) (hx : xs.getD 0 0 = (rootW d : Int)) :
    Calls Fagg.prog 42 #[.slice a n c] w fun e w' => e = .returned (.bool true) ∧ Below w.heap.size w w' := by
  have HC := hide (claimed1_any a n c d xs w hs hn hw hd hl hx)
  clear hs hn hw hd hl hx
  go_enter Fagg.func42, Fagg.ntmps42
  go_wp2_with (go_at_call 95; with_reducible refine (unhide HC).mono ?_; rintro e w1 ⟨x, rfl, hb1⟩; have HB1 := hide hb1; clear hb1)
  go_ret
  exact ⟨rfl, (unhide HB1).alloc (unhide HB1).size _⟩
end Go.Proofs.Ygcfag
