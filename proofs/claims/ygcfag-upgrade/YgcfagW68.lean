/-
  WALKS: smodel.gather.
-/
import Derived.Test.YgcfagW67
import Derived.Test.YgcfagW60
namespace Go.Proofs.Ygcfag
open Go.RowKit
set_option linter.unusedVariables false
set_option linter.unusedSimpArgs false

theorem info164 : (Fagg.prog.info? 164).map (fun i => (i.zero, i.size, i.bytes)) = some (some (.agg #[.int .u8 0, .int .i64 0, .int .i64 0]), 3, 24) := by kernel_rfl

theorem three_new (w : World) (x y z : Value) (e : TypeId) : ∀ (j : Nat) (u : Value), [x, y, z][j]? = some u → (w.alloc (.cells #[x, y, z] e)).cell? ((⟨w.heap.size, 0, none⟩ : Addr).add j) = some u := by
  intro j u h
  match j, h with
  | 0, h => simp at h; subst h; simp [Addr.add]
  | 1, h => simp at h; subst h; simp [Addr.add]
  | 2, h => simp at h; subst h; simp [Addr.add]

theorem apart_take (L : List (Nat × Nat × Nat)) (s a n i : Nat) (h : i < L.length) : apartB (L.take (i + 1)) s a n = (apartB (L.take i) s a n && !meetB (L.getD i (0, 0, 0)) s a n) := by
  unfold apartB
  rw [List.take_succ_eq_append_getElem h, List.all_append]
  simp [List.getD_eq_getElem?_getD, h]

theorem apart_not (L : List (Nat × Nat × Nat)) (s a n i : Nat) (h : i < L.length) (hm : meetB (L.getD i (0, 0, 0)) s a n = true) : apartB L s a n = false := by
  unfold apartB
  rw [List.all_eq_false]
  refine ⟨L.getD i (0, 0, 0), ?_, by rw [hm]; simp⟩
  rw [List.getD_eq_getElem?_getD, List.getElem?_eq_getElem h]; simp

set_option maxHeartbeats 1000000 in
set_option maxRecDepth 100000 in
theorem gather_any (g b s at_ n : Nat) (L : List (Nat × Nat × Nat)) (w : World) (hs : SeenAt w g b L) (hs8 : s < 256) (hat : at_ + n ≤ 65536) (hL : L.length ≤ 1000) :
    Calls Fagg.prog 148 #[.int .u8 (s : Int), .int .i64 (at_ : Int), .int .i64 (n : Int), .pointer (some ⟨g, 0, none⟩)] w fun e w' => e = .returned (.bool (gatherB L s at_ n)) ∧ ∃ b', SeenStep g b b' w w' ∧ (gatherB L s at_ n = true → SeenAt w' g b' (L ++ ivs s at_ n)) ∧ (gatherB L s at_ n = false → Below w.heap.size w w') := by
  by_cases hn0 : n = 0
  · subst hn0
    have e : gatherB L s at_ 0 = true := by simp [gatherB]
    rw [e]
    have HS := hide hs
    clear hs
    go_enter Fagg.func148, Fagg.ntmps148
    go_wp2
    go_ret
    exact ⟨rfl, b, SeenStep.of_below (Below.refl _ _), (fun _ => by simpa [ivs] using unhide HS), (fun h => by cases h)⟩
  have hg : gatherB L s at_ n = apartB L s at_ n := by simp [gatherB, hn0]
  have hiv : ivs s at_ n = [(s, at_, at_ + n)] := by simp [ivs, hn0]
  rw [hg, hiv]
  obtain ⟨i0, hi0, hz0, hz1, hz2⟩ := info_parts info164
  have hlt := hs.lt
  obtain ⟨cap, hc, hown⟩ := hs.own
  have hfz := hs.froz
  have hne := hs.ne
  have HOWN := hide hown
  have HCELL := hide (fun i (hi : i < L.length) => And.intro ((hown.cellAt (i * 3) (by omega)).trans (cells3_at L i hi).1) (And.intro ((hown.cellAt (i * 3 + 1) (by omega)).trans (cells3_at L i hi).2.1) ((hown.cellAt (i * 3 + 2) (by omega)).trans (cells3_at L i hi).2.2)))
  clear hs hown hg hiv
  have hn0' : ((n : Int) == 0) = false := by simp; omega
  go_enter Fagg.func148, Fagg.ntmps148
  go_wp2_with fail
  go_loopw [17] (fun s1 wr => ∃ (i : Nat), s1 = .int .i64 (i : Int) ∧ i ≤ L.length ∧ Below w.heap.size w wr ∧ Hid (apartB (L.take i) s at_ n = true)) (fun s1 _ => L.length - (intOf s1).toNat)
  case atStart => exact ⟨0, rfl, by omega, Below.refl _ _, hide (by simp [apartB])⟩
  case round =>
    obtain ⟨i, rfl, hi, hbr, HA⟩ := hrel
    have hsz := hbr.size
    by_cases hlt : i < L.length
    · have hlt' : (i : Int) < (L.length : Int) := by omega
      obtain ⟨k0, k1, k2⟩ := unhide HCELL i hlt
      have r0 := (hbr.cell (p := ⟨b, i * 3, none⟩) (by show b < _; omega)).trans k0
      have r1 := (hbr.cell (p := ⟨b, i * 3 + 1, none⟩) (by show b < _; omega)).trans k1
      have r2 := (hbr.cell (p := ⟨b, i * 3 + 2, none⟩) (by show b < _; omega)).trans k2
      clear k0 k1 k2
      have HT := hide (apart_take L s at_ n i hlt)
      have HN := hide (apart_not L s at_ n i hlt)
      generalize hoo : L.getD i (0, 0, 0) = o at *
      obtain ⟨o1, o2, o3⟩ := o
      simp only [meetB] at HT HN
      simp only at r0 r1 r2
      clear hoo
      have hbr1 : Below w.heap.size w (wr.alloc (Obj.cells #[Value.int IntKind.u8 (o1 : Int), Value.int IntKind.i64 (o2 : Int), Value.int IntKind.i64 (o3 : Int)] 164)) := hbr.alloc (by omega) _
      have HB1 := hide hbr1
      clear hbr1
      by_cases q1 : o1 = s
      · have q1' : ((o1 : Int) == (s : Int)) = true := by simp [q1]
        by_cases q2 : at_ < o3
        · have q2' : (at_ : Int) < (o3 : Int) := by omega
          by_cases q3 : o2 < at_ + n
          · have q3' : (o2 : Int) < (at_ : Int) + (n : Int) := by omega
            have HF := hide (unhide HN (by simp [q1, q2, q3]))
            clear q1 q2 q3
            go_wp2_with fail
            go_ret
            exact ⟨by rw [unhide HF]; rfl, b, SeenStep.of_below (unhide HB1), (fun h => by rw [unhide HF] at h; cases h), (fun _ => unhide HB1)⟩
          · have q3' : ¬ (o2 : Int) < (at_ : Int) + (n : Int) := by omega
            have HF := hide (by rw [unhide HT, unhide HA]; simp [q1, q2, q3] : apartB (L.take (i + 1)) s at_ n = true)
            clear q1 q2 q3
            go_wp2_with fail
            exact ⟨⟨i + 1, by go_num, by omega, unhide HB1, HF⟩, by simp [intOf]; omega⟩
        · have q2' : ¬ (at_ : Int) < (o3 : Int) := by omega
          have HF := hide (by rw [unhide HT, unhide HA]; simp [q1, q2] : apartB (L.take (i + 1)) s at_ n = true)
          clear q1 q2
          go_wp2_with fail
          exact ⟨⟨i + 1, by go_num, by omega, unhide HB1, HF⟩, by simp [intOf]; omega⟩
      · have q1' : ((o1 : Int) == (s : Int)) = false := by simp; omega
        have HF := hide (by rw [unhide HT, unhide HA]; simp [q1] : apartB (L.take (i + 1)) s at_ n = true)
        clear q1
        go_wp2_with fail
        exact ⟨⟨i + 1, by go_num, by omega, unhide HB1, HF⟩, by simp [intOf]; omega⟩
    · have hlt' : ¬ (i : Int) < (L.length : Int) := by omega
      have HF := hide (by have h := unhide HA; rw [List.take_of_length_le (by omega)] at h; exact h : apartB L s at_ n = true)
      have rc := (hbr.cell (p := ⟨g, 0, none⟩) (by show g < _; omega)).trans hc
      have rf := (hbr.frozen (p := ⟨g, 0, none⟩) (by show g < _; omega)).trans hfz
      have HOW := hide (owns_below (unhide HOWN) hbr)
      have HBR := hide hbr
      have hgw : g < wr.heap.size := by omega
      have hbw : b < wr.heap.size := by omega
      clear hbr hc hfz
      have HEL : Hid (∀ u ∈ [Value.int .u8 (s : Int), Value.int .i64 (at_ : Int), Value.int .i64 ((at_ : Int) + (n : Int))], u.oneCell' = true) := hide (by intro u hu; simp at hu; rcases hu with rfl | rfl | rfl <;> rfl)
      have hmx : L.length + 1 ≤ maxLen := by unfold maxLen; omega
      have hby : (L.length + 1) * 24 ≤ 140737488355328 := by omega
      go_wp2_with (at_builtin; refine wpList_append_lies _ rfl _ _ 165 rfl 0 164 i0 (.agg #[.int .u8 0, .int .i64 0, .int .i64 0]) 3 24 Fagg.underlying165 hi0 hz0 hz1 hz2 rfl (by decide) _ _ _ rfl ((unhide HOW).alloc _) ⟨wr.heap.size, 0, none⟩ 1 1 [.int .u8 (s : Int), .int .i64 (at_ : Int), .int .i64 ((at_ : Int) + (n : Int))] rfl rfl (three_new _ _ _ _ _) (unhide HEL) (by omega) hmx hby (by omega) (wr.heap.size + 1) (by simp) ?_; intro b1 cap1 w1 hown1 hgrow hat1 hlt1; have y1 : w1.cell? ⟨g, 0, none⟩ = some (.slice (some ⟨b, 0, none⟩) L.length cap) := (hgrow.cell_far ⟨g, 0, none⟩ (by simp; omega) (fun h => hne (Option.some.inj h).symm)).trans ((World.cell?_alloc_lt _ _ _ hgw).trans rc); have y2 : w1.frozen? ⟨g, 0, none⟩ = false := (hgrow.frozen_far ⟨g, 0, none⟩ (by simp; omega) (fun h => hne (Option.some.inj h).symm)).trans ((((Below.refl wr.heap.size wr).alloc (Nat.le_refl _) _).frozen (p := ⟨g, 0, none⟩) hgw).trans rf); have HO1 := hide hown1; have HGR := hide hgrow; have HA1 := hide hat1; clear hown1 hgrow hat1)
      go_ret
      refine ⟨by rw [unhide HF]; rfl, b1, ?_, fun _ => ?_, fun h => by rw [unhide HF] at h; cases h⟩
      · have hg1 := unhide HGR
        have hb := unhide HBR
        refine ⟨hg1.os.trans hb.os, hg1.tape.trans hb.tape, hg1.output.trans hb.output, ?_, ?_, fun k hk h1 h2 => ?_⟩
        · have := hg1.size; simp at this ⊢; omega
        · have h3 : some b = some b1 ∨ b1 = wr.heap.size + 1 := unhide HA1
          rcases h3 with h3 | h3
          · exact .inl (Option.some.inj h3).symm
          · right; omega
        · rw [Below.heap_setCell _ _ _ _ (by exact h1), hg1.block k (by simp; omega) (fun h => h2 (Option.some.inj h)), Below.heap_alloc _ _ _ (by omega)]
          exact hb.block k hk
      · have hb1g : b1 ≠ g := by
          have h3 : some b = some b1 ∨ b1 = wr.heap.size + 1 := unhide HA1
          rcases h3 with h3 | h3
          · have := Option.some.inj h3; omega
          · omega
        refine ⟨⟨cap1, ?_, ?_⟩, ?_, hb1g⟩
        · rw [List.length_append]
          exact World.cell?_setCell_same _ _ _ y1
        · have h := unhide HO1
          rw [List.length_append]
          have e3 : cells3 (L ++ [(s, at_, at_ + n)]) = cells3 L ++ [.int .u8 (s : Int), .int .i64 (at_ : Int), .int .i64 ((at_ : Int) + (n : Int))] := by simp [cells3]
          rw [e3]
          obtain ⟨h1, h2 | ⟨g', cap', cur, hv, hg, hh, r⟩⟩ := h
          · exact absurd h2.2 (by omega)
          · refine ⟨h1, .inr ⟨g', cap', cur, hv, hg, ?_, r⟩⟩
            have e4 : b1 = g' := by injection hv with e1 e2 e3; injection e1 with e1; injection e1
            rw [Below.heap_setCell _ _ _ _ (by show g' ≠ g; omega)]; exact hh
        · rw [frozen_set]; exact y2
end Go.Proofs.Ygcfag
