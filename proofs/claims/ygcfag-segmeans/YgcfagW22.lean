/-
  WALKS: segwire.Seal: the contracts.
-/
import Derived.Test.YgcfagW21
import Derived.Test.YgcfagL13
namespace Go.Proofs.Ygcfag
open Go.RowKit
set_option linter.unusedVariables false
set_option linter.unusedSimpArgs false

theorem World.size_alloc' (w : World) (o : Obj) : (w.alloc o).heap.size = w.heap.size + 1 := by simp
theorem alloc_block (w : World) (o : Obj) : (w.alloc o).heap[w.heap.size]? = some o := heap_alloc_new w o

set_option maxHeartbeats 1000000 in
theorem seal_no (a : Option Addr) (n c : Nat) (packed : Bool) (ms : List (List Int)) (w : World) (hs : SegsAt w a ms) (hn : ms.length = n) (hf : fitsOf ms = false) :
    Calls Fagg.prog 51 #[.slice a n c, .bool packed] w fun e w' => e = .returned (.slice none 0 0) ∧ w' = w := by
  have HF := hide (fits_any a n c ms w hs hn)
  rw [hf] at HF
  go_enter Fagg.func51, Fagg.ntmps51
  go_wp2_with (go_at_call 66; refine (unhide HF).mono ?_; rintro e w1 ⟨rfl, rfl⟩)
  go_ret
  exact ⟨rfl, rfl⟩

set_option maxHeartbeats 1000000 in
set_option maxRecDepth 100000 in
theorem seal_any (a : Option Addr) (n c : Nat) (packed : Bool) (ms : List (List Int)) (w : World) (hs : SegsAt w a ms) (hn : ms.length = n) (hf : fitsOf ms = true) (hw : Wds ms.flatten) :
    Calls Fagg.prog 51 #[.slice a n c, .bool packed] w fun e w' => ∃ v, e = .returned v ∧ w'.ownsRow w.heap.size 5 1 v (sealOf ms packed).length ((sealOf ms packed).map (Value.int .u8)) ∧ Below w.heap.size w w' := by
  have hf' : 1 ≤ ms.length ∧ ms.length ≤ 8 ∧ 1 ≤ (ms.getD 0 []).length ∧ total ms ≤ 256 := by simpa [fitsOf] using hf
  have HF := hide (fits_any a n c ms w hs hn)
  rw [hf] at HF
  obtain ⟨b, off, rfl, hbw, hcell⟩ := hs.get (by omega)
  have HS := hide hs
  have HC := hide hcell
  have HW := hide hw
  have HN := hide hn
  have HFT := hide hf
  have hn8 : n ≤ 8 := by omega
  have htot := hf'.2.2.2
  clear hs hcell hw hn hf hf'
  obtain ⟨i0, hi0, hz0, hz1, hz2⟩ := info_parts info32
  go_enter Fagg.func51, Fagg.ntmps51
  go_wp2_with (go_at_call 66; refine (unhide HF).mono ?_; rintro e w1 ⟨rfl, hw1⟩; subst hw1)
  refine seal_loop1 b off n c ms w1 (unhide HN) hn8 htot (unhide HC) _ _ _ _ _ _ _ _ _ _ _ _ _ _ _ _ _ _ _ _ _ _ _ _ _ _ _ _ _ _ _ _ _ _ _ _ _ _ _ _ _ _ _ _ _ _ _ _ _ _ _ _ _ _ _ _ _ _ _ _ _ _ _ _ _ _ _ _ _ _ _ _ _ _ _ _ _ _ _ _ _ _ _ _ _ _ _ _ _ _ _ _ _ _ _ _ _ _ _ _ _ _ _ _ _ _ _ _ _ _ _ ?_
  intro v7 v26 v27 v28 v29 v30 v31 v32 v33 v34
  simp only [Exit.inBlock, Exit.then, if_true]
  refine (‹∀ (a : Act) (w : World), Code.wp Fagg.prog _ _ a w → _› _ _ ?_)
  refine wp_seq_k (fun K0 hK0 => ?_)
  have HK0 := hide hK0
  clear hK0
  go_wp2_with (at_make; refine wpList_make_own _ rfl _ _ 44 rfl w1.heap.size 32 i0 (.int .u64 0) 1 Fagg.underlying44 hi0 hz0 hz1 _ _ _ (total ms) rfl rfl ?_ ?_ ?_ ?_ ?_)
  all_goals first | omega | (unfold maxLen; omega) | (rw [hz2]; omega) | go_num | skip
  intro w2 ho hg
  have hb1 := (Below.refl w1.heap.size w1).grown hg (Nat.le_refl _) (by simp)
  have HO := hide ho
  clear ho hg
  go_wp2
  refine unhide HK0 _ _ ?_
  clear HK0
  refine wp_seq_k (fun K0 hK0 => ?_)
  have HK0 := hide hK0
  clear hK0
  go_wp2
  refine unhide HK0 _ _ ?_
  have hsz := hb1.size
  refine seal_s0 _ w1.heap.size b off n c w2.heap.size packed ms _ _ (unhide HN) (unhide HFT) hbw (fun W hW => (unhide HS).below ((hb1.alloc (by omega) _).trans hW)) (unhide HW) ((unhide HO).alloc _) (by rw [World.size_alloc']; omega) hsz (alloc_block w2 _) (fun vv wr hb ho => ?_) _ _ _ _ _ _ _ _ _ _ _ _ _ _ _ _ _ _ _ _ _ _ _ _ _ _ _ _ _ _ _ _ _ _ _ _ _ _ _ _ _ _ _ _ _ _ _ _ _ _ _ _ _ _ _ _ _ _ _ _ _ _ _ _ _ _ _ _ _ _ _ _ _ _ _ _ _ _ _ _ _ _ _ _ _ _ _ _ _ _ _ _ _ _ _ _ _ _ _ _ _ _ _ _ _ _ _ _ _ _ _
  exact ⟨vv, rfl, ho, (hb1.alloc (by omega) _).trans hb⟩
end Go.Proofs.Ygcfag
