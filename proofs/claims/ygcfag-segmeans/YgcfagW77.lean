/-
  WALKS: smodel.Validate.
-/
import Derived.Test.YgcfagW76
import Derived.Test.YgcfagPlain20
import Derived.Test.YgcfagW23
import Derived.Test.YgcfagW62
namespace Go.Proofs.Ygcfag
open Go.RowKit
set_option linter.unusedVariables false
set_option linter.unusedSimpArgs false

theorem seen_start (w : World) : SeenAt ((w.alloc (Obj.cells #[Value.int IntKind.u8 0, Value.int IntKind.i64 0, Value.int IntKind.i64 1] 164)).alloc (Obj.cells #[Value.slice (some ⟨w.heap.size, 0, none⟩) 1 1] 165)) (w.heap.size + 1) w.heap.size [(0, 0, 1)] := by
  refine ⟨⟨1, by simp, ?_⟩, by simp, by omega⟩
  refine ⟨rfl, .inr ⟨w.heap.size, 1, #[Value.int IntKind.u8 0, Value.int IntKind.i64 0, Value.int IntKind.i64 1], rfl, by omega, ?_, by simp, by unfold maxLen; omega, rfl, rfl⟩⟩
  rw [Below.heap_alloc _ _ _ (by simp)]
  exact heap_alloc_new w _

set_option maxHeartbeats 1000000 in
set_option maxRecDepth 100000 in
theorem mvalid_any (a : Option Addr) (n c : Nat) (ms : List (List Int)) (w : World) (hs : SegsAt w a ms) (hn : ms.length = n) (hn9 : n ≤ 9) (hl : ∀ m ∈ ms, m.length ≤ 17592186043904) (hw : ∀ i, Wds (ms.getD i [])) :
    Calls Fagg.prog 32 #[.slice a n c] w fun e w' => e = .returned (.bool (validOf ms)) ∧ Below w.heap.size w w' := by
  have htot : total ms ≤ 158329674395136 := by
    have := total_bd _ ms hl
    rw [hn] at this
    have h9 : n * 17592186043904 ≤ 9 * 17592186043904 := Nat.mul_le_mul_right _ hn9
    omega
  by_cases h0 : n = 0
  · subst h0
    have HF := hide (show validOf ms = false by unfold validOf fitsOf; simp; omega)
    rw [unhide HF]
    clear hs hl htot hn hw
    go_enter Fagg.func32, Fagg.ntmps32
    go_wp2_with fail
    go_loopw [9] (fun y wr => y = .int .i64 0 ∧ wr = w) (fun _ _ => 0)
    case atStart => exact ⟨rfl, rfl⟩
    case round =>
      obtain ⟨rfl, rfl⟩ := hrel
      go_wp2_with fail
      go_ret
      exact ⟨rfl, Below.refl _ _⟩
  · have HSG := hide hs
    obtain ⟨b, off, rfl, hbw, hcell⟩ := hs.get (by omega)
    obtain ⟨a0, c0, h00, _, _⟩ := hcell 0 (by omega)
    have HC := hide hcell
    have HN := hide hn
    have HF : Hid (fitsOf ms = (((decide ((1 : Int) ≤ (n : Int)) && decide ((n : Int) ≤ 8)) && decide ((1 : Int) ≤ ((ms.getD 0 []).length : Int))) && decide ((total ms : Int) ≤ 256))) := by
      refine hide ?_
      unfold fitsOf
      rw [hn, ← Bool.decide_and, ← Bool.decide_and, ← Bool.decide_and]
      exact decide_eq_decide.2 (by omega)
    have HWD := hide hw
    clear hs hl hcell hn hw
    go_enter Fagg.func32, Fagg.ntmps32
    go_wp2_with fail
    go_loopw [3, 9] (fun s y wr => ∃ k : Nat, k ≤ n ∧ y = .int .i64 (k : Int) ∧ s = .int .i64 (total (ms.take k) : Int) ∧ wr = w) (fun _ y _ => n - (intOf y).toNat)
    case atStart => exact ⟨0, by omega, rfl, rfl, rfl⟩
    case round =>
      obtain ⟨k, hk, rfl, rfl, rfl⟩ := hrel
      have hle := total_le ms k
      by_cases hlt : k < n
      · have e1 : (k : Int) < (n : Int) := by omega
        have hn' := unhide HN
        obtain ⟨ak, ck, hck, _, _⟩ := unhide HC k (by omega)
        have HST := hide (total_step ms k (by omega))
        have hge := total_ge ms k (by omega)
        generalize (ms.getD k []).length = lk at *
        generalize total (ms.take k) = t at *
        clear hn' HF
        go_wp2_with fail
        refine ⟨⟨k + 1, by omega, by go_num, ?_, trivial⟩, by simp [intOf]; omega⟩
        rw [unhide HST]; go_num
      · have e1 : ¬ (k : Int) < (n : Int) := by omega
        obtain rfl : k = n := by omega
        have hn' := unhide HN
        have HT := hide (show total (ms.take k) = total ms by rw [List.take_of_length_le (by omega)])
        rw [unhide HT]
        have h1 : ((k : Int) == 0) = false := by simp; omega
        rw [Nat.add_zero] at h00
        by_cases h8 : (k : Int) ≤ 8
        · have h8' : ¬ (k : Int) > 8 := by omega
          by_cases hl : 1 ≤ (ms.getD 0 []).length
          · have hl' : (((ms.getD 0 []).length : Int) == 0) = false := beq_eq_false_iff_ne.2 (by omega)
            by_cases ht : (total ms : Int) ≤ 256
            · have ht' : ¬ (total ms : Int) > 256 := by omega
              have hff : fitsOf ms = true := by rw [unhide HF, decide_eq_true (show (1 : Int) ≤ (k : Int) by omega), decide_eq_true h8, decide_eq_true (show (1 : Int) ≤ ((ms.getD 0 []).length : Int) by omega), decide_eq_true ht]; rfl
              have hfs := free_start hff
              have HV : Hid (Calls Fagg.prog 80 #[.slice (some ⟨b, off, none⟩) k c, .int .u8 0, .int .i64 0, .int .i64 8, .pointer (some ⟨wr.heap.size + 1, 0, none⟩)] ((wr.alloc (Obj.cells #[Value.int IntKind.u8 0, Value.int IntKind.i64 0, Value.int IntKind.i64 1] 164)).alloc (Obj.cells #[Value.slice (some ⟨wr.heap.size, 0, none⟩) 1 1] 165)) (VisPost ms [(0, 0, 1)] 8 0 0 (wr.heap.size + 1) wr.heap.size ((wr.alloc (Obj.cells #[Value.int IntKind.u8 0, Value.int IntKind.i64 0, Value.int IntKind.i64 1] 164)).alloc (Obj.cells #[Value.slice (some ⟨wr.heap.size, 0, none⟩) 1 1] 165)))) := hide (visit_any ms (some ⟨b, off, none⟩) k c wr (unhide HSG) hn' hff (unhide HWD) 8 0 0 (wr.heap.size + 1) wr.heap.size [(0, 0, 1)] _ (by omega) (by omega) (by omega) (bel_two wr _ _) (by omega) (by omega) (seen_start wr) (by simp; omega))
              have HVO := hide (show validOf ms = FB ms [(0, 0, 1)] [(8, 0, 0)] by unfold validOf; rw [hff]; simp)
              generalize (ms.getD 0 []).length = l0 at *
              generalize total ms = t at *
              clear HF HC HN hff hfs HT hn'
              go_wp2_with (go_at_call 80; with_reducible refine (unhide HV).mono ?_; unfold VisPost; rintro e w1 ⟨rfl, b1, hst, _⟩; have HST := hide hst; clear hst)
              go_ret
              exact ⟨by rw [unhide HVO]; rfl, (bel_two wr _ _).trans ((unhide HST).below (by omega) (by omega) (by simp; omega))⟩
            · have ht' : (total ms : Int) > 256 := by omega
              have HF2 := hide (show validOf ms = false by unfold validOf; rw [unhide HF, decide_eq_false ht]; simp)
              generalize (ms.getD 0 []).length = l0 at *
              generalize total ms = t at *
              clear HF HC HN HT hn'
              go_wp2_with fail
              go_ret
              exact ⟨by rw [unhide HF2]; rfl, Below.refl _ _⟩
          · have hl' : (((ms.getD 0 []).length : Int) == 0) = true := beq_iff_eq.2 (by omega)
            have HF2 := hide (show validOf ms = false by unfold validOf; rw [unhide HF, decide_eq_false (show ¬ (1 : Int) ≤ ((ms.getD 0 []).length : Int) by omega)]; simp)
            generalize (ms.getD 0 []).length = l0 at *
            generalize total ms = t at *
            clear HF HC HN HT hn'
            go_wp2_with fail
            go_ret
            exact ⟨by rw [unhide HF2]; rfl, Below.refl _ _⟩
        · have h8' : (k : Int) > 8 := by omega
          have HF2 := hide (show validOf ms = false by unfold validOf; rw [unhide HF, decide_eq_false h8]; simp)
          generalize (ms.getD 0 []).length = l0 at *
          generalize total ms = t at *
          clear HF HC HN HT hn'
          go_wp2_with fail
          go_ret
          exact ⟨by rw [unhide HF2]; rfl, Below.refl _ _⟩
end Go.Proofs.Ygcfag
