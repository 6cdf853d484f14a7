/-
  WALKS: law.ownResolve whole; seg.MakeFar.
-/
import Derived.Test.YgcfagW51
namespace Go.Proofs.Ygcfag
open Go.RowKit
set_option linter.unusedVariables false
set_option linter.unusedSimpArgs false

theorem z3_new (u : World) : Z3 (u.alloc (Obj.cells #[Value.int IntKind.u8 0, Value.int IntKind.u16 0, Value.int IntKind.u8 0] 62)) u.heap.size := ⟨by simp, by simp, by simp, by simp, by simp, by simp⟩

theorem three_made {w w1 : World} (h : w1 = ((w.alloc (Obj.cells #[Value.int IntKind.u8 0, Value.int IntKind.u8 0, Value.int IntKind.u16 0, Value.int IntKind.u8 0, Value.int IntKind.u8 0, Value.int IntKind.u8 0, Value.int IntKind.u16 0] 60)).alloc (Obj.cells #[Value.int IntKind.u8 0, Value.int IntKind.u16 0, Value.int IntKind.u8 0] 62)).alloc (Obj.cells #[Value.int IntKind.u8 0, Value.int IntKind.u16 0, Value.int IntKind.u8 0] 62)) : Below w.heap.size w w1 ∧ Z7 w1 w.heap.size ∧ Z3 w1 (w.heap.size + 1) ∧ Z3 w1 (w.heap.size + 1 + 1) ∧ w1.heap.size = w.heap.size + 1 + 1 + 1 := by
  subst h
  obtain ⟨h1, h2, h3⟩ := two_made (rfl : (w.alloc (Obj.cells #[Value.int IntKind.u8 0, Value.int IntKind.u8 0, Value.int IntKind.u16 0, Value.int IntKind.u8 0, Value.int IntKind.u8 0, Value.int IntKind.u8 0, Value.int IntKind.u16 0] 60)).alloc (Obj.cells #[Value.int IntKind.u8 0, Value.int IntKind.u16 0, Value.int IntKind.u8 0] 62) = (w.alloc (Obj.cells #[Value.int IntKind.u8 0, Value.int IntKind.u8 0, Value.int IntKind.u16 0, Value.int IntKind.u8 0, Value.int IntKind.u8 0, Value.int IntKind.u8 0, Value.int IntKind.u16 0] 60)).alloc (Obj.cells #[Value.int IntKind.u8 0, Value.int IntKind.u16 0, Value.int IntKind.u8 0] 62))
  have hb := (Below.refl ((w.alloc (Obj.cells #[Value.int IntKind.u8 0, Value.int IntKind.u8 0, Value.int IntKind.u16 0, Value.int IntKind.u8 0, Value.int IntKind.u8 0, Value.int IntKind.u8 0, Value.int IntKind.u16 0] 60)).alloc (Obj.cells #[Value.int IntKind.u8 0, Value.int IntKind.u16 0, Value.int IntKind.u8 0] 62)).heap.size ((w.alloc (Obj.cells #[Value.int IntKind.u8 0, Value.int IntKind.u8 0, Value.int IntKind.u16 0, Value.int IntKind.u8 0, Value.int IntKind.u8 0, Value.int IntKind.u8 0, Value.int IntKind.u16 0] 60)).alloc (Obj.cells #[Value.int IntKind.u8 0, Value.int IntKind.u16 0, Value.int IntKind.u8 0] 62))).alloc (Nat.le_refl _) (Obj.cells #[Value.int IntKind.u8 0, Value.int IntKind.u16 0, Value.int IntKind.u8 0] 62)
  have h9 := z3_new ((w.alloc (Obj.cells #[Value.int IntKind.u8 0, Value.int IntKind.u8 0, Value.int IntKind.u16 0, Value.int IntKind.u8 0, Value.int IntKind.u8 0, Value.int IntKind.u8 0, Value.int IntKind.u16 0] 60)).alloc (Obj.cells #[Value.int IntKind.u8 0, Value.int IntKind.u16 0, Value.int IntKind.u8 0] 62))
  have e : ((w.alloc (Obj.cells #[Value.int IntKind.u8 0, Value.int IntKind.u8 0, Value.int IntKind.u16 0, Value.int IntKind.u8 0, Value.int IntKind.u8 0, Value.int IntKind.u8 0, Value.int IntKind.u16 0] 60)).alloc (Obj.cells #[Value.int IntKind.u8 0, Value.int IntKind.u16 0, Value.int IntKind.u8 0] 62)).heap.size = w.heap.size + 1 + 1 := by simp
  rw [e] at h9
  exact ⟨h1.alloc h1.size _, h2.below hb, h3.below hb, h9, by simp⟩

set_option maxHeartbeats 2000000 in
set_option maxRecDepth 100000 in
theorem ownResolve_in (a : Option Addr) (n c s i : Nat) (ms : List (List Int)) (w : World) (hs : SegsAt w a ms) (hn : ms.length = n) (hf : fitsOf ms = true) (hw : ∀ i, Wds (ms.getD i [])) (hsn : s < n) (hil : i < (ms.getD s []).length) :
    Calls Fagg.prog 29 #[.slice a n c, .int .i64 (s : Int), .int .i64 (i : Int)] w fun e w' => e = .returned (spRes (resolveOf ms s i)) ∧ Below w.heap.size w w' := by
  have hff := fits_facts hf
  obtain ⟨b, off, rfl, hbw, _⟩ := hs.get (by omega)
  go_enter Fagg.func29, Fagg.ntmps29
  refine wp_seq_k (fun K0 hK0 => ?_)
  have HK0 := hide hK0
  clear hK0
  go_wp2
  refine unhide HK0 _ _ ?_
  clear HK0
  refine wp_seq_k (fun K0 hK0 => ?_)
  have HK0 := hide hK0
  clear hK0
  go_wp2
  refine unhide HK0 _ _ ?_
  clear HK0
  obtain ⟨W, hW⟩ : ∃ W, W = ((w.alloc (Obj.cells #[Value.int IntKind.u8 0, Value.int IntKind.u8 0, Value.int IntKind.u16 0, Value.int IntKind.u8 0, Value.int IntKind.u8 0, Value.int IntKind.u8 0, Value.int IntKind.u16 0] 60)).alloc (Obj.cells #[Value.int IntKind.u8 0, Value.int IntKind.u16 0, Value.int IntKind.u8 0] 62)).alloc (Obj.cells #[Value.int IntKind.u8 0, Value.int IntKind.u16 0, Value.int IntKind.u8 0] 62) := ⟨_, rfl⟩
  obtain ⟨hL, h7, h3, h9, hsz⟩ := three_made hW
  rw [← hW]
  clear hW
  have hsW := hs.below hL
  have hbW : b < W.heap.size := by omega
  obtain ⟨_, _, he, _, hcell⟩ := hsW.get (by omega)
  simp at he
  obtain ⟨rfl, rfl⟩ := he
  obtain ⟨b2, o2, c2, g1, g2, g3⟩ := SegsAt.word hcell s (by omega) (by omega)
  have hx := wds_bd (hw s) i
  by_cases hr : wordOf ms s i % 4 = 2
  · by_cases hd : wordOf ms s i / 4 % 2 = 1
    · have e : resolveOf ms s i = doubleOf ms (wordOf ms s i) := by unfold resolveOf; rw [if_neg (by simp [hr]), if_pos hd]
      rw [e]
      cases hfo : farOf ms (wordOf ms s i) 2 with
      | none =>
        have e2 : doubleOf ms (wordOf ms s i) = none := by unfold doubleOf; rw [hfo]
        rw [e2]
        exact own_far0 _ w.heap.size b off n c s i _ c2 b2 o2 ms (wordOf ms s i) W hsW hn hf hw hsn hil rfl hbW g2 g1 (g3 i hil) hx h7 h3 h9 hsz hr 2 (by omega) (by omega) hfo (hide fun w' hb => ⟨rfl, hL.trans hb⟩) _ _ _ _ _ _ _ _ _ _ _ _ _ _ _ _ _ _ _ _ _ _ _ _ _ _ _ _ _ _ _ _ _ _ _ _ _ _ _ _ _ _ _ _ _ _ _ _ _ _ _ _ _ _ _ _ _ _ _ _ _ _ _ _ _ _ _ _ _ _ _ _ _ _ _ _ _ _ _ _ _ _ _ _ _ _ _ _ _ _ _ _ _ _ _ _ _ _ _ _ _ _ _ _ _ _ _ _ _ _ _ _ _ _ _ _ _ _ _ _ _ _ _ _ _ _ _ _ _ _ _ _ _ _ _ _ _ _ _ _ _ _ _ _ _ _ _ _
      | some r =>
        obtain ⟨t, pad⟩ := r
        obtain ⟨ht, hp⟩ := farOf_facts hfo hx.1
        obtain ⟨b3, o3, c3, k1, k2, k3⟩ := SegsAt.word hcell t ht (by omega)
        exact own_far2 _ w.heap.size b off n c s i _ c2 b2 o2 ms (wordOf ms s i) W hsW hn hf hw hsn hil rfl hbW g2 g1 (g3 i hil) hx h7 h3 h9 hsz hr t pad _ c3 b3 o3 (wordOf ms t pad) (by omega) rfl k2 k1 (k3 pad (by omega)) (wds_bd (hw t) pad) (wordOf ms t (pad + 1)) hd hfo (by omega) (k3 (pad + 1) (by omega)) (wds_bd (hw t) (pad + 1)) rfl rfl (hide fun w' hb => ⟨rfl, hL.trans hb⟩) _ _ _ _ _ _ _ _ _ _ _ _ _ _ _ _ _ _ _ _ _ _ _ _ _ _ _ _ _ _ _ _ _ _ _ _ _ _ _ _ _ _ _ _ _ _ _ _ _ _ _ _ _ _ _ _ _ _ _ _ _ _ _ _ _ _ _ _ _ _ _ _ _ _ _ _ _ _ _ _ _ _ _ _ _ _ _ _ _ _ _ _ _ _ _ _ _ _ _ _ _ _ _ _ _ _ _ _ _ _ _ _ _ _ _ _ _ _ _ _ _ _ _ _ _ _ _ _ _ _ _ _ _ _ _ _ _ _ _ _ _ _ _ _ _ _ _ _
    · have e : resolveOf ms s i = singleOf ms (wordOf ms s i) := by unfold resolveOf; rw [if_neg (by simp [hr]), if_neg hd]
      rw [e]
      cases hfo : farOf ms (wordOf ms s i) 1 with
      | none =>
        have e2 : singleOf ms (wordOf ms s i) = none := by unfold singleOf; rw [hfo]
        rw [e2]
        exact own_far0 _ w.heap.size b off n c s i _ c2 b2 o2 ms (wordOf ms s i) W hsW hn hf hw hsn hil rfl hbW g2 g1 (g3 i hil) hx h7 h3 h9 hsz hr 1 (by omega) (by omega) hfo (hide fun w' hb => ⟨rfl, hL.trans hb⟩) _ _ _ _ _ _ _ _ _ _ _ _ _ _ _ _ _ _ _ _ _ _ _ _ _ _ _ _ _ _ _ _ _ _ _ _ _ _ _ _ _ _ _ _ _ _ _ _ _ _ _ _ _ _ _ _ _ _ _ _ _ _ _ _ _ _ _ _ _ _ _ _ _ _ _ _ _ _ _ _ _ _ _ _ _ _ _ _ _ _ _ _ _ _ _ _ _ _ _ _ _ _ _ _ _ _ _ _ _ _ _ _ _ _ _ _ _ _ _ _ _ _ _ _ _ _ _ _ _ _ _ _ _ _ _ _ _ _ _ _ _ _ _ _ _ _ _ _
      | some r =>
        obtain ⟨t, pad⟩ := r
        obtain ⟨ht, hp⟩ := farOf_facts hfo hx.1
        obtain ⟨b3, o3, c3, k1, k2, k3⟩ := SegsAt.word hcell t ht (by omega)
        exact own_far1 _ w.heap.size b off n c s i _ c2 b2 o2 ms (wordOf ms s i) W hsW hn hf hw hsn hil rfl hbW g2 g1 (g3 i hil) hx h7 h3 h9 hsz hr t pad _ c3 b3 o3 (wordOf ms t pad) (by omega) rfl k2 k1 (k3 pad (by omega)) (wds_bd (hw t) pad) (by omega) hfo (by omega) rfl (.inr ⟨b3, o3, rfl, k3⟩) (hide fun w' hb => ⟨rfl, hL.trans hb⟩) _ _ _ _ _ _ _ _ _ _ _ _ _ _ _ _ _ _ _ _ _ _ _ _ _ _ _ _ _ _ _ _ _ _ _ _ _ _ _ _ _ _ _ _ _ _ _ _ _ _ _ _ _ _ _ _ _ _ _ _ _ _ _ _ _ _ _ _ _ _ _ _ _ _ _ _ _ _ _ _ _ _ _ _ _ _ _ _ _ _ _ _ _ _ _ _ _ _ _ _ _ _ _ _ _ _ _ _ _ _ _ _ _ _ _ _ _ _ _ _ _ _ _ _ _ _ _ _ _ _ _ _ _ _ _ _ _ _ _ _ _ _ _ _ _ _ _ _
  · have e : resolveOf ms s i = nearOf ms s i := by unfold resolveOf; rw [if_pos hr]
    rw [e]
    exact own_near _ w.heap.size b off n c s i _ c2 b2 o2 ms (wordOf ms s i) W hsW hn hf hw hsn hil rfl hbW g2 g1 (g3 i hil) hx h7 h3 h9 hsz rfl (.inr ⟨b2, o2, rfl, g3⟩) hr (hide fun w' hb => ⟨rfl, hL.trans hb⟩) _ _ _ _ _ _ _ _ _ _ _ _ _ _ _ _ _ _ _ _ _ _ _ _ _ _ _ _ _ _ _ _ _ _ _ _ _ _ _ _ _ _ _ _ _ _ _ _ _ _ _ _ _ _ _ _ _ _ _ _ _ _ _ _ _ _ _ _ _ _ _ _ _ _ _ _ _ _ _ _ _ _ _ _ _ _ _ _ _ _ _ _ _ _ _ _ _ _ _ _ _ _ _ _ _ _ _ _ _ _ _ _ _ _ _ _ _ _ _ _ _ _ _ _ _ _ _ _ _ _ _ _ _ _ _ _ _ _ _ _ _ _ _ _ _ _ _ _

/-- seg.MakeFar. -/
def farWord (s i : Nat) : Int := bits .or .u64 (bits .or .u64 2 ((i : Int) * 8)) ((s : Int) * 4294967296)

set_option maxHeartbeats 1000000 in
theorem makeFar_any (s i : Nat) (d : Bool) (w : World) (hs : s < 256) (hi : i < 65536) :
    Calls Fagg.prog 30 #[.int .u8 (s : Int), .int .u16 (i : Int), .bool d] w fun e w' => e = .returned (.int .u64 (if s < 8 ∧ i < 256 then (if d then bits .or .u64 (farWord s i) 4 else farWord s i) else 0)) ∧ w' = w := by
  by_cases h8 : s < 8
  · have e1 : ¬ (s : Int) ≥ 8 := by omega
    by_cases h256 : i < 256
    · have e2 : ¬ (i : Int) ≥ 256 := by omega
      rw [if_pos ⟨h8, h256⟩]
      cases d with
      | true =>
        go_enter Fagg.func30, Fagg.ntmps30
        go_wp2
        go_ret
        exact ⟨rfl, rfl⟩
      | false =>
        go_enter Fagg.func30, Fagg.ntmps30
        go_wp2
        go_ret
        exact ⟨rfl, rfl⟩
    · have e2 : (i : Int) ≥ 256 := by omega
      rw [if_neg (by omega)]
      go_enter Fagg.func30, Fagg.ntmps30
      go_wp2
      go_ret
      exact ⟨rfl, rfl⟩
  · have e1 : (s : Int) ≥ 8 := by omega
    rw [if_neg (by omega)]
    go_enter Fagg.func30, Fagg.ntmps30
    go_wp2
    go_ret
    exact ⟨rfl, rfl⟩
end Go.Proofs.Ygcfag
