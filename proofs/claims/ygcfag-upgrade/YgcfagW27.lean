/-
  WALKS: wire.room's plain.
-/
import Derived.Test.YgcfagW26
namespace Go.Proofs.Ygcfag
open Go.RowKit
set_option linter.unusedVariables false
set_option linter.unusedSimpArgs false

/-- A resolved pointer as Go's value. -/
def ptV (p : Pt) : Value := .agg #[.int .u8 p.kind, .int .u16 p.at_, .int .u8 p.data, .int .u8 p.ptrs, .int .u8 p.code, .int .u16 p.count]
/-- .. and whether it was taken. -/
def ptRes : Option Pt → Value
  | none => .tuple #[ptV Pt.nil, .bool false]
  | some p => .tuple #[ptV p, .bool true]

theorem plainOf_bad {size : Nat} {low tt code n : Int} (h : code < 2 ∨ 6 < code ∨ 128 < n) : plainOf size low tt code n = none := by unfold plainOf; rw [if_pos h]
theorem plainOf_out {size : Nat} {low tt code n : Int} (h : ¬ (code < 2 ∨ 6 < code ∨ 128 < n)) (h2 : spansB size low tt (listWords code n) = false) : plainOf size low tt code n = none := by unfold plainOf; rw [if_neg h, if_pos h2]
theorem plainOf_ok {size : Nat} {low tt code n : Int} (h : ¬ (code < 2 ∨ 6 < code ∨ 128 < n)) (h2 : spansB size low tt (listWords code n) = true) : plainOf size low tt code n = some ⟨2, tt, 0, 0, code, n⟩ := by unfold plainOf; rw [if_neg h, if_neg (by simp [h2])]
theorem spansB_bd {n : Nat} {low tt k : Int} (hlow : 0 ≤ low) (hk : 0 ≤ k) (h : spansB n low tt k = true) : 0 ≤ tt ∧ tt ≤ (n : Int) := by
  unfold spansB at h
  split at h
  · simpa using h
  · simp at h; omega

theorem below_set6 {B b : Nat} {u w : World} (h : Below B u w) (hb : B ≤ b) (v0 v1 v2 v3 v4 v5 : Value) : Below B u ((((((w.setCell ⟨b, 0, none⟩ v0).setCell ⟨b, 1, none⟩ v1).setCell ⟨b, 2, none⟩ v2).setCell ⟨b, 3, none⟩ v3).setCell ⟨b, 4, none⟩ v4).setCell ⟨b, 5, none⟩ v5) :=
  (((((h.setCell hb _).setCell hb _).setCell hb _).setCell hb _).setCell hb _).setCell hb _

set_option maxHeartbeats 1000000 in
set_option maxRecDepth 100000 in
theorem plain_any (a : Option Addr) (n c : Nat) (low tt code k : Int) (w : World) (hn : n ≤ 256) (hlow : 0 ≤ low ∧ low ≤ 1) (hto : -1073741824 ≤ tt ∧ tt ≤ 1073741824) (hc : 0 ≤ code) (hc2 : code ≤ 6) (hk : 0 ≤ k) (hk2 : k < 536870912) :
    Calls Fagg.prog 143 #[.agg #[.slice a n c, .int .u16 low], .int .i32 tt, .int .u8 code, .int .i32 k] w fun e w' => e = .returned (ptRes (plainOf n low tt code k)) ∧ Below w.heap.size w w' := by
  by_cases h1 : code < 2
  · rw [plainOf_bad (.inl h1)]
    go_enter Fagg.func143, Fagg.ntmps143
    go_wp2_with fail
    exact bodyPost_ret (v := ptRes none) (by simp [results, Fagg.results143, go_sem, ptRes, ptV, Pt.nil]) rfl ⟨rfl, (((Below.refl _ _).alloc (Nat.le_refl _) _).alloc (by simp) _)⟩
  · have e6 : ¬ code > 6 := by omega
    by_cases h2 : k > 128
    · rw [plainOf_bad (.inr (.inr h2))]
      go_enter Fagg.func143, Fagg.ntmps143
      go_wp2_with fail
      exact bodyPost_ret (v := ptRes none) (by simp [results, Fagg.results143, go_sem, ptRes, ptV, Pt.nil]) rfl ⟨rfl, (((Below.refl _ _).alloc (Nat.le_refl _) _).alloc (by simp) _)⟩
    · have hb := hide (show ¬ (code < 2 ∨ 6 < code ∨ 128 < k) by omega)
      have hlw := listWords_bd code k (by omega) (by omega) hk (by omega)
      have HW := hide (fun W => wl_any code k W (by omega) hc2 hk (by omega))
      have HSP := hide (fun W => spans_any a n c low tt (listWords code k) W hn hlow hto (by omega))
      have HBD := hide (spansB_bd (n := n) (tt := tt) hlow.1 hlw.1)
      have HPO := hide (plainOf_out (size := n) (low := low) (tt := tt) (unhide hb))
      have HPK := hide (plainOf_ok (size := n) (low := low) (tt := tt) (unhide hb))
      clear hb
      generalize listWords code k = lw at *
      have hl0 : ∀ (l : Later (((w.alloc (Obj.cells #[Value.slice a n c, Value.int IntKind.u16 low] 254)).alloc (Obj.cells #[Value.int IntKind.u8 0, Value.int IntKind.u16 0, Value.int IntKind.u8 0, Value.int IntKind.u8 0, Value.int IntKind.u8 0, Value.int IntKind.u16 0] 58)).alloc (Obj.cells #[Value.int IntKind.u8 2, Value.int IntKind.u16 0, Value.int IntKind.u8 0, Value.int IntKind.u8 0, Value.int IntKind.u8 code, Value.int IntKind.u16 k] 58))) (o : Nat), l.u.cell? ⟨w.heap.size, o, none⟩ = (((w.alloc (Obj.cells #[Value.slice a n c, Value.int IntKind.u16 low] 254)).alloc (Obj.cells #[Value.int IntKind.u8 0, Value.int IntKind.u16 0, Value.int IntKind.u8 0, Value.int IntKind.u8 0, Value.int IntKind.u8 0, Value.int IntKind.u16 0] 58)).alloc (Obj.cells #[Value.int IntKind.u8 2, Value.int IntKind.u16 0, Value.int IntKind.u8 0, Value.int IntKind.u8 0, Value.int IntKind.u8 code, Value.int IntKind.u16 k] 58)).cell? ⟨w.heap.size, o, none⟩ := fun l o => l.cell (by simp; omega)
      have hl2 : ∀ (l : Later (((w.alloc (Obj.cells #[Value.slice a n c, Value.int IntKind.u16 low] 254)).alloc (Obj.cells #[Value.int IntKind.u8 0, Value.int IntKind.u16 0, Value.int IntKind.u8 0, Value.int IntKind.u8 0, Value.int IntKind.u8 0, Value.int IntKind.u16 0] 58)).alloc (Obj.cells #[Value.int IntKind.u8 2, Value.int IntKind.u16 0, Value.int IntKind.u8 0, Value.int IntKind.u8 0, Value.int IntKind.u8 code, Value.int IntKind.u16 k] 58))) (o : Nat), l.u.cell? ⟨w.heap.size + 1 + 1, o, none⟩ = (((w.alloc (Obj.cells #[Value.slice a n c, Value.int IntKind.u16 low] 254)).alloc (Obj.cells #[Value.int IntKind.u8 0, Value.int IntKind.u16 0, Value.int IntKind.u8 0, Value.int IntKind.u8 0, Value.int IntKind.u8 0, Value.int IntKind.u16 0] 58)).alloc (Obj.cells #[Value.int IntKind.u8 2, Value.int IntKind.u16 0, Value.int IntKind.u8 0, Value.int IntKind.u8 0, Value.int IntKind.u8 code, Value.int IntKind.u16 k] 58)).cell? ⟨w.heap.size + 1 + 1, o, none⟩ := fun l o => l.cell (by simp)
      have hf2 : ∀ (l : Later (((w.alloc (Obj.cells #[Value.slice a n c, Value.int IntKind.u16 low] 254)).alloc (Obj.cells #[Value.int IntKind.u8 0, Value.int IntKind.u16 0, Value.int IntKind.u8 0, Value.int IntKind.u8 0, Value.int IntKind.u8 0, Value.int IntKind.u16 0] 58)).alloc (Obj.cells #[Value.int IntKind.u8 2, Value.int IntKind.u16 0, Value.int IntKind.u8 0, Value.int IntKind.u8 0, Value.int IntKind.u8 code, Value.int IntKind.u16 k] 58))) (o : Nat), l.u.frozen? ⟨w.heap.size + 1 + 1, o, none⟩ = (((w.alloc (Obj.cells #[Value.slice a n c, Value.int IntKind.u16 low] 254)).alloc (Obj.cells #[Value.int IntKind.u8 0, Value.int IntKind.u16 0, Value.int IntKind.u8 0, Value.int IntKind.u8 0, Value.int IntKind.u8 0, Value.int IntKind.u16 0] 58)).alloc (Obj.cells #[Value.int IntKind.u8 2, Value.int IntKind.u16 0, Value.int IntKind.u8 0, Value.int IntKind.u8 0, Value.int IntKind.u8 code, Value.int IntKind.u16 k] 58)).frozen? ⟨w.heap.size + 1 + 1, o, none⟩ := fun l o => l.h.frozen (by simp)
      have hl1 : ∀ (l : Later (((w.alloc (Obj.cells #[Value.slice a n c, Value.int IntKind.u16 low] 254)).alloc (Obj.cells #[Value.int IntKind.u8 0, Value.int IntKind.u16 0, Value.int IntKind.u8 0, Value.int IntKind.u8 0, Value.int IntKind.u8 0, Value.int IntKind.u16 0] 58)).alloc (Obj.cells #[Value.int IntKind.u8 2, Value.int IntKind.u16 0, Value.int IntKind.u8 0, Value.int IntKind.u8 0, Value.int IntKind.u8 code, Value.int IntKind.u16 k] 58))) (o : Nat), l.u.cell? ⟨w.heap.size + 1, o, none⟩ = (((w.alloc (Obj.cells #[Value.slice a n c, Value.int IntKind.u16 low] 254)).alloc (Obj.cells #[Value.int IntKind.u8 0, Value.int IntKind.u16 0, Value.int IntKind.u8 0, Value.int IntKind.u8 0, Value.int IntKind.u8 0, Value.int IntKind.u16 0] 58)).alloc (Obj.cells #[Value.int IntKind.u8 2, Value.int IntKind.u16 0, Value.int IntKind.u8 0, Value.int IntKind.u8 0, Value.int IntKind.u8 code, Value.int IntKind.u16 k] 58)).cell? ⟨w.heap.size + 1, o, none⟩ := fun l o => l.cell (by simp)
      have hf1 : ∀ (l : Later (((w.alloc (Obj.cells #[Value.slice a n c, Value.int IntKind.u16 low] 254)).alloc (Obj.cells #[Value.int IntKind.u8 0, Value.int IntKind.u16 0, Value.int IntKind.u8 0, Value.int IntKind.u8 0, Value.int IntKind.u8 0, Value.int IntKind.u16 0] 58)).alloc (Obj.cells #[Value.int IntKind.u8 2, Value.int IntKind.u16 0, Value.int IntKind.u8 0, Value.int IntKind.u8 0, Value.int IntKind.u8 code, Value.int IntKind.u16 k] 58))) (o : Nat), l.u.frozen? ⟨w.heap.size + 1, o, none⟩ = (((w.alloc (Obj.cells #[Value.slice a n c, Value.int IntKind.u16 low] 254)).alloc (Obj.cells #[Value.int IntKind.u8 0, Value.int IntKind.u16 0, Value.int IntKind.u8 0, Value.int IntKind.u8 0, Value.int IntKind.u8 0, Value.int IntKind.u16 0] 58)).alloc (Obj.cells #[Value.int IntKind.u8 2, Value.int IntKind.u16 0, Value.int IntKind.u8 0, Value.int IntKind.u8 0, Value.int IntKind.u8 code, Value.int IntKind.u16 k] 58)).frozen? ⟨w.heap.size + 1, o, none⟩ := fun l o => l.h.frozen (by simp)
      have hB3 : Below w.heap.size w (((w.alloc (Obj.cells #[Value.slice a n c, Value.int IntKind.u16 low] 254)).alloc (Obj.cells #[Value.int IntKind.u8 0, Value.int IntKind.u16 0, Value.int IntKind.u8 0, Value.int IntKind.u8 0, Value.int IntKind.u8 0, Value.int IntKind.u16 0] 58)).alloc (Obj.cells #[Value.int IntKind.u8 2, Value.int IntKind.u16 0, Value.int IntKind.u8 0, Value.int IntKind.u8 0, Value.int IntKind.u8 code, Value.int IntKind.u16 k] 58)) := ((((Below.refl _ _).alloc (Nat.le_refl _) _).alloc (by simp) _).alloc (by simp; omega) _)
      go_enter Fagg.func143, Fagg.ntmps143
      go_wp2_with fail
      refine wp_region_later (by kernel_rfl) (by kernel_rfl) ?_
      intro hne
      repeat (go_big_quiet_step ((first | (go_at_call 145; exact Calls.later (unhide HW _)) | (go_at_call 141; exact Calls.later (unhide HSP _)))))
      refine wpQuiet_nil ?_
      rintro _ ⟨l, rfl⟩
      have HL := hide (hB3.trans (l.h.mono hB3.size))
      cases hsp : spansB n low tt lw with
      | false =>
        have hF := hide (unhide HPO hsp)
        clear HPO HPK HBD hsp
        go_wp2_with fail
        exact bodyPost_ret (v := ptRes none) (by simp [results, Fagg.results143, go_sem, hl1, ptRes, ptV, Pt.nil]) rfl ⟨by rw [unhide hF], below_set6 (unhide HL) (by omega) _ _ _ _ _ _⟩
      | true =>
        have hbd := unhide HBD hsp
        have hF := hide (unhide HPK hsp)
        clear HPO HPK HBD hsp
        go_wp2_with fail
        exact bodyPost_ret (v := ptRes (some ⟨2, tt, 0, 0, code, k⟩)) (by simp [results, Fagg.results143, go_sem, hl1, ptRes, ptV, Pt.nil]) rfl ⟨by rw [unhide hF], below_set6 ((unhide HL).setCell (by simp; omega) _) (by omega) _ _ _ _ _ _⟩
end Go.Proofs.Ygcfag
