/-
  WALKS: smodel.visit.
-/
import Derived.Test.YgcfagW75
namespace Go.Proofs.Ygcfag
open Go.RowKit
set_option linter.unusedVariables false
set_option linter.unusedSimpArgs false

set_option maxHeartbeats 1000000 in
set_option maxRecDepth 100000 in
theorem vis_step (ms : List (List Int)) (a : Option Addr) (n c : Nat) (w0 : World) (hs : SegsAt w0 a ms) (hn : ms.length = n) (hf : fitsOf ms = true) (hw : ∀ i, Wds (ms.getD i []))
    (l s i g b : Nat) (L : List (Nat × Nat × Nat)) (W : World) (hl8 : l ≤ 8) (hs8 : s < 256) (hi : i < 65536) (hBW : Below w0.heap.size w0 W) (hg0 : w0.heap.size ≤ g) (hb0 : w0.heap.size ≤ b) (hseen : SeenAt W g b L) (hfr : L.length + freeN ms L ≤ 300)
    (HIH : Hid (1 ≤ l → ∀ (sg k bk : Nat) (Lk : List (Nat × Nat × Nat)) (W' : World), sg < 256 → k < 65536 → Below w0.heap.size w0 W' → w0.heap.size ≤ bk → SeenAt W' g bk Lk → Lk.length + freeN ms Lk ≤ 300 → Calls Fagg.prog 80 #[.slice a n c, .int .u8 (sg : Int), .int .i64 (k : Int), .int .i64 ((l : Int) - 1), .pointer (some ⟨g, 0, none⟩)] W' (VisPost ms Lk (l - 1) sg k g bk W'))) :
    Calls Fagg.prog 80 #[.slice a n c, .int .u8 (s : Int), .int .i64 (i : Int), .int .i64 (l : Int), .pointer (some ⟨g, 0, none⟩)] W (VisPost ms L l s i g b W) := by
  obtain ⟨hn1, hn8, hlen⟩ := fits_facts hf
  have HRS := hide (resolve_any a n c s i ms W (hs.below hBW) hn (by omega) hw hs8 hi (fun j => by have := hlen j; omega))
  cases hr : resolveB ms s i with
  | none =>
    rw [hr] at HRS
    simp only [spRes, spP, padV, Pt.nil] at HRS
    have HF := hide (FB_none hr L l)
    clear hr hs hf hw hlen hBW hseen hfr HIH
    unfold VisPost
    go_enter Fagg.func80, Fagg.ntmps80
    refine wp_seq_k (fun K0 hK0 => ?_)
    have HK0 := hide hK0
    clear hK0
    go_wp2_with fail
    refine unhide HK0 _ _ ?_
    clear HK0
    refine wp_seq_k (fun K1 hK1 => ?_)
    have HK1 := hide hK1
    clear hK1
    go_wp2_with (go_at_call 27; with_reducible refine (unhide HRS).mono ?_; rintro e w1 ⟨rfl, hb1⟩; have HB1 := hide hb1; clear hb1)
    refine unhide HK1 _ _ ?_
    clear HK1
    refine wp_seq_k (fun K2 hK2 => ?_)
    have HK2 := hide hK2
    clear hK2
    go_wp2_with fail
    go_ret
    exact ⟨by rw [unhide HF]; rfl, b, SeenStep.of_below ((((unhide HB1).alloc (unhide HB1).size _).alloc (by have := (unhide HB1).size; simp; omega) _)), fun h => by rw [unhide HF] at h; cases h⟩
  | some p =>
    rw [hr] at HRS
    simp only [spRes, spP, padV] at HRS
    have HR := hide hr
    have HSEEN := hide hseen
    have HW := hide hw
    have HSG := hide hs
    clear hr hseen hw hs
    by_cases hk : p.pt.kind = 0
    · have hk' : (p.pt.kind == 0) = true := by simp [hk]
      have HF := hide (FB_null (unhide HR) hk L l)
      clear hk HIH
      unfold VisPost
      go_enter Fagg.func80, Fagg.ntmps80
      refine wp_seq_k (fun K0 hK0 => ?_)
      have HK0 := hide hK0
      clear hK0
      go_wp2_with fail
      refine unhide HK0 _ _ ?_
      clear HK0
      refine wp_seq_k (fun K1 hK1 => ?_)
      have HK1 := hide hK1
      clear hK1
      go_wp2_with (go_at_call 27; with_reducible refine (unhide HRS).mono ?_; rintro e w1 ⟨rfl, hb1⟩; have HB1 := hide hb1; clear hb1)
      refine unhide HK1 _ _ ?_
      clear HK1
      refine wp_seq_k (fun K2 hK2 => ?_)
      have HK2 := hide hK2
      clear hK2
      go_wp2_with fail
      refine unhide HK2 _ _ ?_
      clear HK2
      refine wp_seq_k (fun K3 hK3 => ?_)
      have HK3 := hide hK3
      clear hK3
      go_wp2_with fail
      have hbb := ((((unhide HB1).alloc (unhide HB1).size (Obj.cells #[Value.int IntKind.u8 p.seg, Value.int IntKind.u8 p.pt.kind, Value.int IntKind.u16 p.pt.at_, Value.int IntKind.u8 p.pt.data, Value.int IntKind.u8 p.pt.ptrs, Value.int IntKind.u8 p.pt.code, Value.int IntKind.u16 p.pt.count] 60)).alloc (by have := (unhide HB1).size; simp; omega) (Obj.cells #[Value.int IntKind.u8 p.pseg, Value.int IntKind.u16 p.pat, Value.int IntKind.u8 p.pwords] 62)))
      go_ret
      exact ⟨by rw [(unhide HF).1]; rfl, b, SeenStep.of_below hbb, fun h => by rw [(unhide HF).2, List.append_nil]; exact (unhide HSEEN).below hbb⟩
    · have hk' : (p.pt.kind == 0) = false := by simp [hk]
      go_enter Fagg.func80, Fagg.ntmps80
      refine wp_seq_k (fun K0 hK0 => ?_)
      have HK0 := hide hK0
      clear hK0
      go_wp2_with fail
      refine unhide HK0 _ _ ?_
      clear HK0
      refine wp_seq_k (fun K1 hK1 => ?_)
      have HK1 := hide hK1
      clear hK1
      go_wp2_with (go_at_call 27; with_reducible refine (unhide HRS).mono ?_; rintro e w1 ⟨rfl, hb1⟩; have HB1 := hide hb1; clear hb1)
      refine unhide HK1 _ _ ?_
      clear HK1
      refine gen_world _ (fun w' => Below W.heap.size W w' ∧ W.heap.size ≤ w1.heap.size ∧ w1.heap.size + 1 < w'.heap.size ∧ R7 w' w1.heap.size p.seg p.pt ∧ R3 w' (w1.heap.size + 1) p.pseg p.pat p.pwords) (world10 (unhide HB1) p.seg p.pt p.pseg p.pat p.pwords _ rfl) ?_
      rintro w2 ⟨hb2, hA1, hA2, h7, h3⟩
      obtain ⟨c0, c1, c2, c3, c4, c5, c6⟩ := id h7
      have H7 := hide h7
      have H3 := hide h3
      clear h7 h3
      clear HB1
      generalize w1.heap.size = A at *
      refine wp_seq_k (fun K2 hK2 => ?_)
      have HK2 := hide hK2
      clear hK2
      go_wp2_with fail
      refine unhide HK2 _ _ ?_
      clear HK2
      refine wp_seq_k (fun K3 hK3 => ?_)
      have HK3 := hide hK3
      clear hK3
      go_wp2_with fail
      refine unhide HK3 _ _ ?_
      clear HK3
      exact vis_obj ms a n c w0 (unhide HSG) hn hf (unhide HW) l s i g b A L W w2 p (unhide HR) hk hl8 hBW hg0 hb0 hb2 hA1 hA2 (unhide H7) (unhide H3) (unhide HSEEN) hfr HIH _ _ _ _ _ _ _ _ _ _ _ _ _ _ _ _ _ _ _ _ _ _ _ _ _ _ _ _ _ _ _ _ _ _ _ _ _ _ _ _ _ _ _ _ _ _ _ _ _ _ _ _ _ _ _ _ _ _ _ _ _ _ _ _ _ _ _ _ _ _ _ _ _ _ _ _ _ _ _ _ _ _ _ _ _ _ _ _ _ _ _ _ _ _ _ _ _ _ _ _ _ _ _ _ _ _ _ _ _ _ _ _ _ _ _ _ _ _ _ _ _ _ _ _ _ _ _ _ _ _ _ _ _ _ _ _

/-- smodel.visit. -/
theorem visit_any (ms : List (List Int)) (a : Option Addr) (n c : Nat) (w0 : World) (hs : SegsAt w0 a ms) (hn : ms.length = n) (hf : fitsOf ms = true) (hw : ∀ i, Wds (ms.getD i [])) :
    ∀ (l s i g b : Nat) (L : List (Nat × Nat × Nat)) (W : World), l ≤ 8 → s < 256 → i < 65536 → Below w0.heap.size w0 W → w0.heap.size ≤ g → w0.heap.size ≤ b → SeenAt W g b L → L.length + freeN ms L ≤ 300 →
    Calls Fagg.prog 80 #[.slice a n c, .int .u8 (s : Int), .int .i64 (i : Int), .int .i64 (l : Int), .pointer (some ⟨g, 0, none⟩)] W (VisPost ms L l s i g b W)
  | 0, s, i, g, b, L, W, h1, h2, h3, h4, h5, h6, h7, h8 => vis_step ms a n c w0 hs hn hf hw 0 s i g b L W h1 h2 h3 h4 h5 h6 h7 h8 (hide fun h => by omega)
  | l + 1, s, i, g, b, L, W, h1, h2, h3, h4, h5, h6, h7, h8 => vis_step ms a n c w0 hs hn hf hw (l + 1) s i g b L W h1 h2 h3 h4 h5 h6 h7 h8 (hide fun _ sg k bk Lk W' k1 k2 k3 k4 k5 k6 => by
      have e : (((l + 1 : Nat) : Int) - 1) = (l : Int) := by omega
      rw [e]
      exact visit_any ms a n c w0 hs hn hf hw l sg k g bk Lk W' (by omega) k1 k2 k3 h5 k4 k5 k6)
end Go.Proofs.Ygcfag
