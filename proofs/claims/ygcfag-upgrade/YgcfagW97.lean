/-
  WALKS: codec's node of a root struct.
-/
import Derived.Test.YgcfagW95
import Derived.Test.YgcfagW90
import Derived.Deep.AppendLies
import Derived.Deep.RegionLaw
import Derived.OneCell
namespace Go.Proofs.Ygcfag
open Go.RowKit
set_option linter.unusedVariables false
set_option linter.unusedSimpArgs false

theorem held6 {P : Nat} {w u : World} {x0 x1 x2 x3 x4 x5 : Value} (hP : P < w.heap.size) (h0 : w.cell? ⟨P, 0, none⟩ = some x0) (h1 : w.cell? ⟨P, 1, none⟩ = some x1) (h2 : w.cell? ⟨P, 2, none⟩ = some x2) (h3 : w.cell? ⟨P, 3, none⟩ = some x3) (h4 : w.cell? ⟨P, 4, none⟩ = some x4) (h5 : w.cell? ⟨P, 5, none⟩ = some x5) (h : Below w.heap.size w u) : Below w.heap.size w u ∧ u.cell? ⟨P, 0, none⟩ = some x0 ∧ u.cell? ⟨P, 1, none⟩ = some x1 ∧ u.cell? ⟨P, 2, none⟩ = some x2 ∧ u.cell? ⟨P, 3, none⟩ = some x3 ∧ u.cell? ⟨P, 4, none⟩ = some x4 ∧ u.cell? ⟨P, 5, none⟩ = some x5 :=
  ⟨h, (h.cell (p := ⟨P, 0, none⟩) hP).trans h0, (h.cell (p := ⟨P, 1, none⟩) hP).trans h1, (h.cell (p := ⟨P, 2, none⟩) hP).trans h2, (h.cell (p := ⟨P, 3, none⟩) hP).trans h3, (h.cell (p := ⟨P, 4, none⟩) hP).trans h4, (h.cell (p := ⟨P, 5, none⟩) hP).trans h5⟩

theorem below_of_drew {w w' : World} (h : Below w.drew.heap.size w.drew w') : Below w.heap.size w w' := ⟨h.os, h.tape, h.output, h.size, h.block⟩

theorem take_snocV {xs : List Int} {d i : Nat} {x : Int} (hl : (xs.drop 1).length = d) (hi : i < d) (hx : (xs.drop 1).getD i 0 = x) : ((xs.drop 1).take i).map (Value.int .u64) ++ [Value.int .u64 x] = ((xs.drop 1).take (i + 1)).map (Value.int .u64) := by
  rw [List.take_add_one, List.map_append]
  congr 1
  have h : i < (xs.drop 1).length := by omega
  rw [List.getElem?_eq_getElem h]
  simp only [List.getD, List.getElem?_eq_getElem h, Option.getD_some] at hx
  rw [hx]; rfl

theorem node_round {wr w3 w4 w1 : World} {B i b4 cap4 c0 : Nat} {A : Option Addr} {v x : Value} {l l' : List Value} (hBr : B < wr.heap.size) (hB1 : w1.heap.size ≤ B) (hnd : NodeAt wr B v) (hb3 : Below wr.heap.size wr w3) (hg : (w3.alloc (Obj.cells #[x] 32)).grownBy w4 (Value.slice A i c0).ownBlock) (hne : (Value.slice A i c0).ownBlock ≠ some B) (hat : (Value.slice A i c0).ownBlock = some b4 ∨ b4 = w3.heap.size + 1) (hb4 : Below w1.heap.size w1 w4) (ho : w4.ownsRow w1.heap.size 32 1 (.slice (some ⟨b4, 0, none⟩) (i + 1) cap4) (i + 1) l) (hl : l = l') :
    B < (w4.setCell ⟨B, 2, none⟩ (.slice (some ⟨b4, 0, none⟩) (i + 1) cap4)).heap.size ∧ Hid (Below w1.heap.size w1 (w4.setCell ⟨B, 2, none⟩ (.slice (some ⟨b4, 0, none⟩) (i + 1) cap4))) ∧ Hid (NodeAt (w4.setCell ⟨B, 2, none⟩ (.slice (some ⟨b4, 0, none⟩) (i + 1) cap4)) B (.slice (some ⟨b4, 0, none⟩) (i + 1) cap4)) ∧ Hid ((w4.setCell ⟨B, 2, none⟩ (.slice (some ⟨b4, 0, none⟩) (i + 1) cap4)).ownsRow w1.heap.size 32 1 (.slice (some ⟨b4, 0, none⟩) (i + 1) cap4) (i + 1) l') ∧ Hid ((Value.slice (some ⟨b4, 0, none⟩) (i + 1) cap4).ownBlock ≠ some B) := by
  subst hl
  have h3 := hb3.size
  have hsz : B < (w3.alloc (Obj.cells #[x] 32)).heap.size := by simp; omega
  have hne' : some B ≠ (Value.slice A i c0).ownBlock := fun h => hne h.symm
  have hb3' : Below wr.heap.size wr (w3.alloc (Obj.cells #[x] 32)) := hb3.alloc h3 _
  have cc : ∀ j, w4.cell? ⟨B, j, none⟩ = wr.cell? ⟨B, j, none⟩ := fun j => (hg.cell_far ⟨B, j, none⟩ hsz hne').trans (hb3'.cell (p := ⟨B, j, none⟩) hBr)
  have hf : w4.frozen? ⟨B, 2, none⟩ = false := (hg.frozen_far ⟨B, 2, none⟩ hsz hne').trans ((hb3'.frozen (p := ⟨B, 2, none⟩) hBr).trans hnd.f2)
  have hbB : (Value.slice (some ⟨b4, 0, none⟩) (i + 1) cap4).ownBlock ≠ some B := by
    intro h
    have h' : b4 = B := by simpa [Value.ownBlock] using h
    subst h'
    rcases hat with h1 | h1
    · exact hne h1
    · omega
  have hlt4 : B < w4.heap.size := World.block_lt_of_cell? w4 _ ((cc 0).trans hnd.c0)
  refine ⟨by simpa using hlt4, hide (hb4.setCell hB1 _), hide ⟨?_, ?_, ?_, ?_, ?_⟩, hide (ownsRow_setCell_other ho hbB _), hide hbB⟩
  · rw [cell_other _ _ _ _ _ (by omega)]; exact (cc 0).trans hnd.c0
  · rw [cell_other _ _ _ _ _ (by omega)]; exact (cc 1).trans hnd.c1
  · exact cell_same _ _ _ _ _ ((cc 2).trans hnd.c2)
  · rw [cell_other _ _ _ _ _ (by omega)]; exact (cc 3).trans hnd.c3
  · rw [frozen_set]; exact hf

set_option maxHeartbeats 1000000 in
set_option maxRecDepth 100000 in
theorem node1_any (g : Value) (a : Option Addr) (n c d : Nat) (xs : List Int) (w : World) (hs : Sl .u64 w a xs) (hn : xs.length = n) (hw : Wds xs) (hd : d ≤ 8) (hl : d + 1 = n) :
    Calls Fagg.prog 84 #[g, .slice a n c, ptV (rootPt d)] w fun e w' => ∃ A cap, e = .returned (.agg #[.int .u8 1, .int .u8 0, .slice A d cap, .slice none 0 0]) ∧ w'.ownsRow w.heap.size 32 1 (.slice A d cap) d ((xs.drop 1).map (Value.int .u64)) ∧ Below w.heap.size w w' := by
  have HU := hide (fun (i : Nat) W (hW : Below w.heap.size w W) (hi : i ≤ 255) => u64_any a n c d i xs W (hs.below hW) hn hw hd hl hi)
  have hk1 : ((rootPt d).kind == 1) = true := rfl
  have hdat : (rootPt d).data = (d : Int) := rfl
  have hptr : (rootPt d).ptrs = 0 := rfl
  have HFI : Hid (∀ i, i < d → fieldOf xs d i 6 = (xs.drop 1).getD i 0) := hide (fun i hi => by
    unfold fieldOf
    rw [if_neg (by omega), show i * 2 ^ 6 / 64 = i by omega, show i * 2 ^ 6 % 64 = 0 by omega]
    have := wds_bd hw (1 + i)
    have e : (xs.drop 1).getD i 0 = xs.getD (1 + i) 0 := by simp [List.getD, Nat.add_comm]
    rw [e]; omega)
  have HLE : Hid ((xs.drop 1).length = d) := hide (by simp; omega)
  unfold ptV at *
  generalize rootPt d = q at *
  have HDA := hide hdat
  have HPT := hide hptr
  clear hs hn hw hl hdat hptr
  go_enter Fagg.func84, Fagg.ntmps84
  refine wp_seq_k (fun K0 hK0 => ?_)
  have HC0 := hide hK0
  clear hK0
  go_wp2_with fail
  refine unhide HC0 _ _ ?_
  clear HC0
  refine gen_world _ (fun w' => Below w.heap.size w w' ∧ w.heap.size + 1 < w'.heap.size ∧ P6 w' w.heap.size q ∧ (w'.cell? ⟨w.heap.size + 1, 0, none⟩ = some (.int .u8 0) ∧ w'.cell? ⟨w.heap.size + 1, 1, none⟩ = some (.int .u8 0) ∧ w'.cell? ⟨w.heap.size + 1, 2, none⟩ = some (.slice none 0 0) ∧ w'.cell? ⟨w.heap.size + 1, 3, none⟩ = some (.slice none 0 0) ∧ w'.frozen? ⟨w.heap.size + 1, 0, none⟩ = false ∧ w'.frozen? ⟨w.heap.size + 1, 1, none⟩ = false ∧ w'.frozen? ⟨w.heap.size + 1, 2, none⟩ = false ∧ w'.frozen? ⟨w.heap.size + 1, 3, none⟩ = false))
    ⟨((Below.refl _ _).alloc (Nat.le_refl _) _).alloc (by simp) _, by simp, ⟨by simp, by simp, by simp, by simp, by simp, by simp⟩, by simp, by simp, by simp, by simp, by simp, by simp, by simp, by simp⟩ ?_
  rintro w1 ⟨hb1, hs1, hp6, rr⟩
  have HR6 := hide rr
  have HP6 := hide hp6
  obtain ⟨p0, p1, p2, p3, p4, p5⟩ := hp6
  rw [unhide HDA] at p2
  rw [unhide HPT] at p3
  have HB1 := hide hb1
  rw [unhide HDA, unhide HPT] at HU
  clear rr hb1
  go_wp2_with fail
  refine node_r2 w.heap.size d w1 (by omega) hd p2 p3 _ _ _ _ _ _ _ _ _ _ _ _ _ _ _ _ _ _ _ _ _ _ _ _ _ _ _ _ _ _ _ _ _ _ _ _ _ _ _ _ _ _ _ _ _ _ _ _ _ _ _ _ _ _ _ _ _ _ _ _ _ _ _ _ _ _ _ _ _ _ _ _ _ _ _ _ _ _ _ _ _ _ _ _ _ _ _ _ _ _ _ _ _ _ _ _ _ _ _ _ _ _ (hide ?_)
  intro v19 v20 v21 v22 v23 v24 v25 v26 v27 B A c0 w2 hB1 hB2 hb2 hnode hown hne
  have HB2 := hide hb2
  have HOWN := hide hown
  have HNE := hide hne
  have HND := hide hnode
  clear hb2 hown hne hnode
  obtain ⟨i0, hi0, hz0, hz1, hz2⟩ := info_parts info32
  have hPw1 : w.heap.size < w1.heap.size := by omega
  go_wp2_with fail
  go_loopw [8] (fun s wr => ∃ (i : Nat) (A : Option Addr) (c : Nat), s = .int .u8 (i : Int) ∧ i ≤ d ∧ B < wr.heap.size ∧ Hid (Below w1.heap.size w1 wr) ∧ Hid (NodeAt wr B (.slice A i c)) ∧ Hid (wr.ownsRow w1.heap.size 32 1 (.slice A i c) i (((xs.drop 1).take i).map (Value.int .u64))) ∧ Hid ((Value.slice A i c).ownBlock ≠ some B)) (fun s _ => d - (intOf s).toNat)
  case atStart => exact ⟨0, A, c0, rfl, by omega, hB2, HB2, HND, by simpa using HOWN, HNE⟩
  case round =>
    clear HND HOWN HNE HB2 A c0 hB2
    obtain ⟨i, A, c0, rfl, hi, hBr, HBr, HND, HOWN, HNE⟩ := hrel
    have hb := unhide HBr
    have r0 := (hb.cell (p := ⟨w.heap.size, 0, none⟩) hPw1).trans p0
    have r1 := (hb.cell (p := ⟨w.heap.size, 1, none⟩) hPw1).trans p1
    have r2 := (hb.cell (p := ⟨w.heap.size, 2, none⟩) hPw1).trans p2
    have r3 := (hb.cell (p := ⟨w.heap.size, 3, none⟩) hPw1).trans p3
    have r4 := (hb.cell (p := ⟨w.heap.size, 4, none⟩) hPw1).trans p4
    have r5 := (hb.cell (p := ⟨w.heap.size, 5, none⟩) hPw1).trans p5
    clear hb
    by_cases hlt : i < d
    · have hlt' : (i : Int) < (d : Int) := by omega
      obtain ⟨n0, n1, n2, n3, nf⟩ := unhide HND
      have HUI := hide ((unhide HU i wr.drew ((unhide HB1).trans ((unhide HBr).drew.mono (unhide HB1).size)) (by omega)).mono (fun e w' h => And.intro h.1 (below_of_drew h.2)))
      rw [unhide HFI i hlt] at HUI
      generalize hx : (xs.drop 1).getD i 0 = x at *
      have HX := hide hx
      clear hx
      have hmx : i + 1 ≤ maxLen := by unfold maxLen; omega
      have hby : (i + 1) * 8 ≤ 140737488355328 := by omega
      have hw1B : w1.heap.size ≤ wr.heap.size := (unhide HBr).size
      go_wp2_with fail
      go_region_law ((first | (refine step_append_lies _ (by rfl) _ _ 44 (by rfl) w1.heap.size 32 i0 (.int .u64 0) 1 8 Fagg.underlying44 hi0 hz0 hz1 hz2 rfl (by decide) _ _ _ (by rfl) ((unhide HO3).alloc _) ⟨w3.heap.size, 0, none⟩ 1 1 [.int .u64 x] (by rfl) rfl (one_new _ _ _) (one_cell rfl) (by omega) hmx hby (by simp; omega) (w3.heap.size + 1) (by simp) ?_; intro b4 cap4 w4 ho4 hg4 hat4 hlt4; have j2 := (hg4.cell_far ⟨B, 2, none⟩ (by simp; omega) (fun h => unhide HNE h.symm)).trans k2a; have jf := (hg4.frozen_far ⟨B, 2, none⟩ (by simp; omega) (fun h => unhide HNE h.symm)).trans ((((Below.refl w3.heap.size w3).alloc (Nat.le_refl _) _).frozen (p := ⟨B, 2, none⟩) (by show B < _; omega)).trans kf); have HB4 := hide (((unhide HB3).alloc (unhide HB3).size _).grown hg4 (by simp; omega) (fun k hk => ((unhide HOWN).lt k hk).1)); have HO4 := hide ho4; have HG4 := hide hg4; have HAT := hide hat4; clear ho4 hg4 hat4) | (go_simp; go_wp2_with (go_at_call 100; with_reducible refine (unhide HUI).mono ?_; rintro e w3 ⟨rfl, hb3⟩; have k2 := (hb3.cell (p := ⟨B, 2, none⟩) hBr).trans n2; have kf := (hb3.frozen (p := ⟨B, 2, none⟩) hBr).trans nf; have k2a := ((((Below.refl w3.heap.size w3).alloc (Nat.le_refl _) (Obj.cells #[Value.int IntKind.u64 x] 32)).cell (p := ⟨B, 2, none⟩) (Nat.lt_of_lt_of_le hBr hb3.size))).trans k2; have HB3 := hide ((unhide HBr).trans (hb3.mono (unhide HBr).size)); have HO3 := hide (owns_below (unhide HOWN) hb3); have hs3 := hb3.size; have HBB := hide hb3; clear hb3))))
      all_goals (have hfin := node_round hBr hB1 (unhide HND) (unhide HBB) (unhide HG4) (unhide HNE) (unhide HAT) (unhide HB4) (unhide HO4) (take_snocV (unhide HLE) hlt (unhide HX)))
      all_goals (generalize w4.setCell _ _ = w5 at hfin ⊢)
      all_goals (clear HUI HX HO3 HB3 HBB HG4 HAT HB4 HO4 HND HOWN HNE HBr k2 kf k2a j2 jf r0 r1 r2 r3 r4 r5 n0 n1 n2 n3 nf)
      all_goals (have hwi : IntKind.u8.wrap ((i : Int) + 1) = ((i + 1 : Nat) : Int) := by rw [IntKind.wrap_u8]; omega)
      all_goals (go_wp2_with fail)
      all_goals (try go_roundw)
      all_goals (first | exact ⟨i + 1, some ⟨b4, 0, none⟩, cap4, by simp, by omega, hfin⟩ | (simp [intOf]; omega))
    · have hge : ¬ ((i : Int) < (d : Int)) := by omega
      have hid : i = d := by omega
      subst hid
      obtain ⟨n0, n1, n2, n3, nf⟩ := unhide HND
      obtain ⟨q0, q1, q2, q3, y0, y1, y2, y3⟩ := unhide HR6
      have hb := unhide HBr
      have o0 := (hb.cell (p := ⟨w.heap.size + 1, 0, none⟩) hs1).trans q0
      have o1 := (hb.cell (p := ⟨w.heap.size + 1, 1, none⟩) hs1).trans q1
      have o2 := (hb.cell (p := ⟨w.heap.size + 1, 2, none⟩) hs1).trans q2
      have o3 := (hb.cell (p := ⟨w.heap.size + 1, 3, none⟩) hs1).trans q3
      have f0 := (hb.frozen (p := ⟨w.heap.size + 1, 0, none⟩) hs1).trans y0
      have f1 := (hb.frozen (p := ⟨w.heap.size + 1, 1, none⟩) hs1).trans y1
      have f2 := (hb.frozen (p := ⟨w.heap.size + 1, 2, none⟩) hs1).trans y2
      have f3 := (hb.frozen (p := ⟨w.heap.size + 1, 3, none⟩) hs1).trans y3
      clear q0 q1 q2 q3 y0 y1 y2 y3 hb
      go_wp2_with fail
      go_loopw [9] (fun s wx => s = .int .u8 0 ∧ wx = wr) (fun s _ => 0)
      case atStart => exact ⟨rfl, rfl⟩
      case round =>
        obtain ⟨rfl, rfl⟩ := hrel
        go_wp2_with fail
        have hbb := (unhide HB1).trans ((unhide HBr).mono (unhide HB1).size)
        have hoo := unhide HOWN
        rw [List.take_of_length_le (by rw [unhide HLE]; exact Nat.le_refl _)] at hoo
        refine bodyPost_ret (v := .agg #[.int .u8 1, .int .u8 0, .slice A i c0, .slice none 0 0]) (by simp [results, Fagg.results84, go_sem, o0, o1, o2, o3]) rfl ⟨A, c0, rfl, ?_, ?_⟩
        · exact own_mono (ownsRow_setCell_below (ownsRow_setCell_below (ownsRow_setCell_below (ownsRow_setCell_below hoo (by show w.heap.size + 1 < _; omega) _) (by show w.heap.size + 1 < _; omega) _) (by show w.heap.size + 1 < _; omega) _) (by show w.heap.size + 1 < _; omega) _) (by omega)
        · exact (((hbb.setCell (Nat.le_succ _) _).setCell (Nat.le_succ _) _).setCell (Nat.le_succ _) _).setCell (Nat.le_succ _) _
end Go.Proofs.Ygcfag
