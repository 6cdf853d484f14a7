/-
  WALKS: seg.walk's follow: lists of structs.
-/
import Derived.Test.YgcfagW62
namespace Go.Proofs.Ygcfag
open Go.RowKit
set_option linter.unusedVariables false
set_option linter.unusedSimpArgs false

/-- The pointer words of the first k elements. -/
def pushedAll (s at_ each d p dep k : Nat) : List (Nat × Nat × Nat) := (List.range k).flatMap fun e => pushed s (at_ + e * each + d) dep p
theorem pushedAll_succ (s at_ each d p dep k : Nat) : pushedAll s at_ each d p dep (k + 1) = pushedAll s at_ each d p dep k ++ pushed s (at_ + k * each + d) dep p := by simp [pushedAll, List.range_succ]
theorem pushed_len (s at_ dep k : Nat) : (pushed s at_ dep k).length = k := by simp [pushed]
theorem pushedAll_len (s at_ each d p dep : Nat) : ∀ k, (pushedAll s at_ each d p dep k).length = k * p
  | 0 => by simp [pushedAll]
  | k + 1 => by rw [pushedAll_succ, List.length_append, pushedAll_len s at_ each d p dep k, pushed_len, Nat.add_mul, Nat.one_mul]

theorem WroteS.trans {g : Nat} {a b c : World} (h : WroteS g a b) (k : WroteS g b c) : WroteS g a c :=
  ⟨fun x y z => (k.cell x y z).trans (h.cell x y z), fun x y => (k.frozen x y).trans (h.frozen x y), k.size.trans h.size, fun B hB => (h.bel B hB).trans (k.bel B hB)⟩

set_option maxHeartbeats 1000000 in
set_option maxRecDepth 100000 in
theorem follow_structs (g s dep d p n at_ : Nat) (L : List (Nat × Nat × Nat)) (w : World) (hst : StackAt w g L) (hs : s < 256) (hd : d ≤ 8) (hp : p ≤ 8) (hn : n ≤ 128) (hat : at_ + n * (d + p) ≤ 256) (hL : L.length + n * p ≤ 256) :
    Calls Fagg.prog 79 #[.pointer (some ⟨g, 0, none⟩), spP (s : Int) ⟨2, (at_ : Int), (d : Int), (p : Int), 7, (n : Int)⟩, .int .u8 (dep : Int)] w fun e w' => e = .returned (.tuple #[]) ∧ StackAt w' g (L ++ pushedAll s at_ (d + p) d p dep n) ∧ WroteG g w w' := by
  have hg := World.block_lt_of_cell? w _ hst.cnt
  obtain ⟨W, hW⟩ : ∃ W, W = ((w.alloc (Obj.cells #[Value.int IntKind.u8 (s : Int), Value.int IntKind.u8 2, Value.int IntKind.u16 (at_ : Int), Value.int IntKind.u8 (d : Int), Value.int IntKind.u8 (p : Int), Value.int IntKind.u8 7, Value.int IntKind.u16 (n : Int)] 60)).alloc (Obj.cells #[Value.int IntKind.u8 2, Value.int IntKind.u16 (at_ : Int), Value.int IntKind.u8 (d : Int), Value.int IntKind.u8 (p : Int), Value.int IntKind.u8 7, Value.int IntKind.u16 (n : Int)] 58)) := ⟨_, rfl⟩
  have hbw : Below w.heap.size w W := by rw [hW]; exact bel_two w _ _
  have c0 : ∀ j v, [Value.int IntKind.u8 (s : Int)][j]? = some v → W.cell? ⟨w.heap.size, j, none⟩ = some v := fun j v h => by
    match j, h with
    | 0, h => simp at h; subst h; rw [hW]; simp
  have k1 : W.cell? ⟨w.heap.size + 1, 1, none⟩ = some (.int .u16 (at_ : Int)) := by rw [hW]; simp
  have k2 : W.cell? ⟨w.heap.size + 1, 2, none⟩ = some (.int .u8 (d : Int)) := by rw [hW]; simp
  have k3 : W.cell? ⟨w.heap.size + 1, 3, none⟩ = some (.int .u8 (p : Int)) := by rw [hW]; simp
  have k5 : W.cell? ⟨w.heap.size + 1, 5, none⟩ = some (.int .u16 (n : Int)) := by rw [hW]; simp
  have ks : W.cell? ⟨w.heap.size, 0, none⟩ = some (.int .u8 (s : Int)) := c0 0 _ rfl
  have HST := hide (hst.below hbw)
  have HW := hide hW
  clear hst hW c0
  unfold spP
  go_enter Fagg.func79, Fagg.ntmps79
  go_wp2_with fail
  rw [← unhide HW]
  go_loopw [8] (fun s1 wr => ∃ (i : Nat), s1 = .int .u16 (i : Int) ∧ i ≤ n ∧ Hid (StackAt wr g (L ++ pushedAll s at_ (d + p) d p dep i)) ∧ Hid (WroteS g W wr)) (fun s1 _ => n - (intOf s1).toNat)
  case atStart => exact ⟨0, rfl, by omega, by show StackAt _ _ _; simpa [pushedAll] using unhide HST, hide (WroteS.refl _ _)⟩
  case round =>
    obtain ⟨i, rfl, hi, HS, HWS⟩ := hrel
    have r1 := ((unhide HWS).cell (w.heap.size + 1) 1 (.inl (by omega))).trans k1
    have r2 := ((unhide HWS).cell (w.heap.size + 1) 2 (.inl (by omega))).trans k2
    have r3 := ((unhide HWS).cell (w.heap.size + 1) 3 (.inl (by omega))).trans k3
    have r5 := ((unhide HWS).cell (w.heap.size + 1) 5 (.inl (by omega))).trans k5
    have rs := ((unhide HWS).cell w.heap.size 0 (.inl (by omega))).trans ks
    by_cases hlt : i < n
    · have e1 : (i : Int) < (n : Int) := by omega
      have hm : (i + 1) * (d + p) ≤ n * (d + p) := Nat.mul_le_mul_right _ hlt
      have hm2 : (i + 1) * p ≤ n * p := Nat.mul_le_mul_right _ hlt
      rw [Nat.add_mul, Nat.one_mul] at hm hm2
      have hlen : (L ++ pushedAll s at_ (d + p) d p dep i).length = L.length + i * p := by rw [List.length_append, pushedAll_len]
      obtain ⟨ie, hie⟩ : ∃ ie : Nat, i * (d + p) = ie := ⟨_, rfl⟩
      have hie2 : (i : Int) * ((d : Int) + (p : Int)) = (ie : Int) := by rw [← hie, Int.natCast_mul, Int.natCast_add]
      have HP := hide (push_any g s (at_ + ie + d) p dep _ wr (unhide HS) (by omega) (by omega))
      have hcast : ((at_ + ie + d : Nat) : Int) = (at_ : Int) + (ie : Int) + (d : Int) := by omega
      rw [hcast] at HP
      have hb1 : ie ≤ 256 := by omega
      have hb2 : at_ + ie + d ≤ 256 := by omega
      have HIE := hide hie
      clear hcast hm hm2 hlen hie k1 k2 k3 k5 ks
      go_wp2_with (go_at_call 75; with_reducible refine (unhide HP).mono ?_; rintro e w1 ⟨rfl, h1, h2⟩; have H1 := hide h1; have H2 := hide ((unhide HWS).trans h2); clear h1 h2)
      refine ⟨⟨i + 1, by go_num, by omega, ?_, H2⟩, by simp [intOf]; omega⟩
      rw [pushedAll_succ, ← List.append_assoc, unhide HIE]
      exact H1
    · have e1 : ¬ (i : Int) < (n : Int) := by omega
      obtain rfl : i = n := by omega
      go_wp2_with fail
      exact bodyPost_end (v := .tuple #[]) (by simp [results, Fagg.results79, go_sem]) rfl ⟨rfl, unhide HS, WroteG.of hbw (unhide HWS)⟩
end Go.Proofs.Ygcfag
