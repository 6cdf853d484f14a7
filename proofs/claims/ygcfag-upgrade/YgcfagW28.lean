/-
  WALKS: wire.room's structs.
-/
import Derived.Test.YgcfagW27
import Derived.Test.YgcfagW11
namespace Go.Proofs.Ygcfag
open Go.RowKit
set_option linter.unusedVariables false
set_option linter.unusedSimpArgs false

/-- What structsOf says, at a tag. -/
theorem structsOf_in {xs : List Int} {low k x d p m : Int} {t : Nat} (hs : spansB xs.length low (t : Int) (k + 1) = true) (hx : xs.getD t 0 = x) (hd : dataOf x = d) (hp : ptrsOf x = p) (hm : x / 4 % 1073741824 = m) : structsOf xs low (t : Int) k =
    if sizedB x = false ∨ x % 4 ≠ 0 ∨ 128 < m then none
    else if (d + p = 0 ∧ m ≠ 0) ∨ m * (d + p) ≠ k then none
    else some ⟨2, (t : Int) + 1, d, p, 7, m⟩ := by
  unfold structsOf
  rw [if_neg (by simp [hs])]
  simp only [Int.toNat_natCast, hx, hd, hp, hm]
theorem structsOf_out {xs : List Int} {low tt k : Int} (hs : spansB xs.length low tt (k + 1) = false) : structsOf xs low tt k = none := by
  unfold structsOf; rw [if_pos hs]

set_option maxHeartbeats 2000000 in
set_option maxRecDepth 100000 in
theorem structs_in (b off n c t : Nat) (xs : List Int) (low k x d p m : Int) (w : World) (hn : n ≤ 256) (hlow : 0 ≤ low ∧ low ≤ 1) (hk : 0 ≤ k) (hk2 : k < 536870912) (hsp : spansB n low (t : Int) (k + 1) = true) (htn : t < n) (hbw : b < w.heap.size) (htag : w.cell? ⟨b, off + t, none⟩ = some (.int .u64 x)) (hx0 : 0 ≤ x) (hx1 : x < 18446744073709551616)
    (hd : dataOf x = d) (hp : ptrsOf x = p) (hm : x / 4 % 1073741824 = m) (HST : structsOf xs low (t : Int) k =
    if sizedB x = false ∨ x % 4 ≠ 0 ∨ 128 < m then none
    else if (d + p = 0 ∧ m ≠ 0) ∨ m * (d + p) ≠ k then none
    else some ⟨2, (t : Int) + 1, d, p, 7, m⟩) :
    Calls Fagg.prog 142 #[.agg #[.slice (some ⟨b, off, none⟩) n c, .int .u16 low], .int .i32 (t : Int), .int .i32 k] w fun e w' => e = .returned (ptRes (structsOf xs low (t : Int) k)) ∧ Below w.heap.size w w' := by
  have HSP := hide (fun W => spans_any (some ⟨b, off, none⟩) n c low (t : Int) (k + 1) W hn hlow (by omega) (by omega))
  rw [hsp] at HSP
  have HT1 := hide (fun W => take_2_30 x W hx0 hx1)
  have HT2 := hide (fun W => take_0_2 x W hx0 hx1)
  have HSEC := hide (fun W => sections_any x W hx0 hx1)
  have hdb := data_bd x
  have hpb := ptrs_bd x
  have hszd : sizedB x = decide (d ≤ 8 ∧ p ≤ 8) := by unfold sizedB; rw [hd, hp]
  rw [hd] at hdb HSEC
  rw [hp] at hpb HSEC
  rw [hm] at HT1
  have hmb : 0 ≤ m := by omega
  have hrb : 0 ≤ x % 4 := by omega
  have hB2 : Below w.heap.size w ((w.alloc (Obj.cells #[Value.slice (some ⟨b, off, none⟩) n c, Value.int IntKind.u16 low] 254)).alloc (Obj.cells #[Value.int IntKind.u8 0, Value.int IntKind.u16 0, Value.int IntKind.u8 0, Value.int IntKind.u8 0, Value.int IntKind.u8 0, Value.int IntKind.u16 0] 58)) := (((Below.refl _ _).alloc (Nat.le_refl _) _).alloc (by simp) _)
  clear hsp hd hp hm
  generalize hr : x % 4 = r at *
  clear hr
  cases hsz : sizedB x with
  | false =>
    rw [hsz] at HSEC HST
    simp only [Bool.false_eq_true, if_false] at HSEC
    have HF := hide (show structsOf xs low (t : Int) k = none by rw [HST]; simp)
    clear HST
    go_enter Fagg.func142, Fagg.ntmps142
    go_wp2_with (first | (go_at_call 141; refine (unhide HSP _).mono ?_; rintro e w1 ⟨rfl, hb1⟩; have hc0 := fun o => hb1.cell (p := ⟨w.heap.size, o, none⟩) (by simp; omega); have hc1 := fun o => hb1.cell (p := ⟨w.heap.size + 1, o, none⟩) (by simp); have hf1 := fun o => hb1.frozen (p := ⟨w.heap.size + 1, o, none⟩) (by simp); have htg := (hb1.cell (p := ⟨b, off + t, none⟩) (by simp; omega)).trans ((World.cell?_alloc_lt _ _ _ (by simp; omega)).trans ((World.cell?_alloc_lt _ _ _ hbw).trans htag)); have HL := hide (hB2.trans (hb1.mono hB2.size))) | (go_at_call 67; first | (with_reducible refine (unhide HT1 _).mono ?_; rintro e w2 ⟨rfl, hw2⟩; subst hw2) | (with_reducible refine (unhide HT2 _).mono ?_; rintro e w2 ⟨rfl, hw2⟩; subst hw2)) | (go_at_call 140; refine (unhide HSEC _).mono ?_; rintro e w2 ⟨rfl, hw2⟩; subst hw2))
    exact bodyPost_ret (v := ptRes none) (by simp [results, Fagg.results142, go_sem, hc1, ptRes, ptV, Pt.nil]) rfl ⟨by rw [unhide HF], below_set6 (unhide HL) (by omega) _ _ _ _ _ _⟩
  | true =>
    rw [hsz] at HSEC HST
    rw [hsz] at hszd
    have hsd : d ≤ 8 ∧ p ≤ 8 := by simpa using hszd.symm
    simp only [if_true] at HSEC
    clear hszd
    by_cases hr0 : r = 0
    · subst hr0
      by_cases hmm : m > 128
      · clear hsd
        have HF := hide (show structsOf xs low (t : Int) k = none by rw [HST, if_pos (.inr (.inr hmm))])
        clear HST
        go_enter Fagg.func142, Fagg.ntmps142
        go_wp2_with (first | (go_at_call 141; refine (unhide HSP _).mono ?_; rintro e w1 ⟨rfl, hb1⟩; have hc0 := fun o => hb1.cell (p := ⟨w.heap.size, o, none⟩) (by simp; omega); have hc1 := fun o => hb1.cell (p := ⟨w.heap.size + 1, o, none⟩) (by simp); have hf1 := fun o => hb1.frozen (p := ⟨w.heap.size + 1, o, none⟩) (by simp); have htg := (hb1.cell (p := ⟨b, off + t, none⟩) (by simp; omega)).trans ((World.cell?_alloc_lt _ _ _ (by simp; omega)).trans ((World.cell?_alloc_lt _ _ _ hbw).trans htag)); have HL := hide (hB2.trans (hb1.mono hB2.size))) | (go_at_call 67; first | (with_reducible refine (unhide HT1 _).mono ?_; rintro e w2 ⟨rfl, hw2⟩; subst hw2) | (with_reducible refine (unhide HT2 _).mono ?_; rintro e w2 ⟨rfl, hw2⟩; subst hw2)) | (go_at_call 140; refine (unhide HSEC _).mono ?_; rintro e w2 ⟨rfl, hw2⟩; subst hw2))
        exact bodyPost_ret (v := ptRes none) (by simp [results, Fagg.results142, go_sem, hc1, ptRes, ptV, Pt.nil]) rfl ⟨by rw [unhide HF], below_set6 (unhide HL) (by omega) _ _ _ _ _ _⟩
      · rw [if_neg (by simp; omega)] at HST
        by_cases he : d + p = 0
        · have he' : (d + p == 0) = true := by simp [he]
          by_cases hm0 : m = 0
          · subst hm0
            by_cases hk0 : k = 0
            · subst hk0
              have HF := hide (show structsOf xs low (t : Int) 0 = some ⟨2, (t : Int) + 1, d, p, 7, 0⟩ by rw [HST, if_neg (by simp)])
              clear HST
              go_enter Fagg.func142, Fagg.ntmps142
              go_wp2_with (first | (go_at_call 141; refine (unhide HSP _).mono ?_; rintro e w1 ⟨rfl, hb1⟩; have hc0 := fun o => hb1.cell (p := ⟨w.heap.size, o, none⟩) (by simp; omega); have hc1 := fun o => hb1.cell (p := ⟨w.heap.size + 1, o, none⟩) (by simp); have hf1 := fun o => hb1.frozen (p := ⟨w.heap.size + 1, o, none⟩) (by simp); have htg := (hb1.cell (p := ⟨b, off + t, none⟩) (by simp; omega)).trans ((World.cell?_alloc_lt _ _ _ (by simp; omega)).trans ((World.cell?_alloc_lt _ _ _ hbw).trans htag)); have HL := hide (hB2.trans (hb1.mono hB2.size))) | (go_at_call 67; first | (with_reducible refine (unhide HT1 _).mono ?_; rintro e w2 ⟨rfl, hw2⟩; subst hw2) | (with_reducible refine (unhide HT2 _).mono ?_; rintro e w2 ⟨rfl, hw2⟩; subst hw2)) | (go_at_call 140; refine (unhide HSEC _).mono ?_; rintro e w2 ⟨rfl, hw2⟩; subst hw2))
              exact bodyPost_ret (v := ptRes (some ⟨2, (t : Int) + 1, d, p, 7, 0⟩)) (by simp [results, Fagg.results142, go_sem, hc1, ptRes, ptV, Pt.nil]) rfl ⟨by rw [unhide HF], below_set6 (unhide HL) (by omega) _ _ _ _ _ _⟩
            · have hk0' : ((0 : Int) != k) = true := by simp; omega
              have HF := hide (show structsOf xs low (t : Int) k = none by rw [HST, if_pos (.inr (by simp; omega))])
              clear HST
              go_enter Fagg.func142, Fagg.ntmps142
              go_wp2_with (first | (go_at_call 141; refine (unhide HSP _).mono ?_; rintro e w1 ⟨rfl, hb1⟩; have hc0 := fun o => hb1.cell (p := ⟨w.heap.size, o, none⟩) (by simp; omega); have hc1 := fun o => hb1.cell (p := ⟨w.heap.size + 1, o, none⟩) (by simp); have hf1 := fun o => hb1.frozen (p := ⟨w.heap.size + 1, o, none⟩) (by simp); have htg := (hb1.cell (p := ⟨b, off + t, none⟩) (by simp; omega)).trans ((World.cell?_alloc_lt _ _ _ (by simp; omega)).trans ((World.cell?_alloc_lt _ _ _ hbw).trans htag)); have HL := hide (hB2.trans (hb1.mono hB2.size))) | (go_at_call 67; first | (with_reducible refine (unhide HT1 _).mono ?_; rintro e w2 ⟨rfl, hw2⟩; subst hw2) | (with_reducible refine (unhide HT2 _).mono ?_; rintro e w2 ⟨rfl, hw2⟩; subst hw2)) | (go_at_call 140; refine (unhide HSEC _).mono ?_; rintro e w2 ⟨rfl, hw2⟩; subst hw2))
              exact bodyPost_ret (v := ptRes none) (by simp [results, Fagg.results142, go_sem, hc1, ptRes, ptV, Pt.nil]) rfl ⟨by rw [unhide HF], below_set6 (unhide HL) (by omega) _ _ _ _ _ _⟩
          · have hm0' : (m != 0) = true := by simp [hm0]
            have HF := hide (show structsOf xs low (t : Int) k = none by rw [HST, if_pos (.inl ⟨he, hm0⟩)])
            clear HST
            go_enter Fagg.func142, Fagg.ntmps142
            go_wp2_with (first | (go_at_call 141; refine (unhide HSP _).mono ?_; rintro e w1 ⟨rfl, hb1⟩; have hc0 := fun o => hb1.cell (p := ⟨w.heap.size, o, none⟩) (by simp; omega); have hc1 := fun o => hb1.cell (p := ⟨w.heap.size + 1, o, none⟩) (by simp); have hf1 := fun o => hb1.frozen (p := ⟨w.heap.size + 1, o, none⟩) (by simp); have htg := (hb1.cell (p := ⟨b, off + t, none⟩) (by simp; omega)).trans ((World.cell?_alloc_lt _ _ _ (by simp; omega)).trans ((World.cell?_alloc_lt _ _ _ hbw).trans htag)); have HL := hide (hB2.trans (hb1.mono hB2.size))) | (go_at_call 67; first | (with_reducible refine (unhide HT1 _).mono ?_; rintro e w2 ⟨rfl, hw2⟩; subst hw2) | (with_reducible refine (unhide HT2 _).mono ?_; rintro e w2 ⟨rfl, hw2⟩; subst hw2)) | (go_at_call 140; refine (unhide HSEC _).mono ?_; rintro e w2 ⟨rfl, hw2⟩; subst hw2))
            exact bodyPost_ret (v := ptRes none) (by simp [results, Fagg.results142, go_sem, hc1, ptRes, ptV, Pt.nil]) rfl ⟨by rw [unhide HF], below_set6 (unhide HL) (by omega) _ _ _ _ _ _⟩
        · have he' : (d + p == 0) = false := by simp [he]
          have hmul : 0 ≤ m * (d + p) ∧ m * (d + p) ≤ 2048 := by
            constructor
            · exact Int.mul_nonneg hmb (by omega)
            · have h1 : m * (d + p) ≤ 128 * (d + p) := Int.mul_le_mul_of_nonneg_right (by omega) (by omega)
              omega
          generalize hmd : m * (d + p) = md at *
          by_cases hk0 : md = k
          · have hk0' : (md != k) = false := by simp [hk0]
            have HF := hide (show structsOf xs low (t : Int) k = some ⟨2, (t : Int) + 1, d, p, 7, m⟩ by rw [HST, if_neg (by simp [he, hk0])])
            clear HST
            go_enter Fagg.func142, Fagg.ntmps142
            go_wp2_with (first | (go_at_call 141; refine (unhide HSP _).mono ?_; rintro e w1 ⟨rfl, hb1⟩; have hc0 := fun o => hb1.cell (p := ⟨w.heap.size, o, none⟩) (by simp; omega); have hc1 := fun o => hb1.cell (p := ⟨w.heap.size + 1, o, none⟩) (by simp); have hf1 := fun o => hb1.frozen (p := ⟨w.heap.size + 1, o, none⟩) (by simp); have htg := (hb1.cell (p := ⟨b, off + t, none⟩) (by simp; omega)).trans ((World.cell?_alloc_lt _ _ _ (by simp; omega)).trans ((World.cell?_alloc_lt _ _ _ hbw).trans htag)); have HL := hide (hB2.trans (hb1.mono hB2.size))) | (go_at_call 67; first | (with_reducible refine (unhide HT1 _).mono ?_; rintro e w2 ⟨rfl, hw2⟩; subst hw2) | (with_reducible refine (unhide HT2 _).mono ?_; rintro e w2 ⟨rfl, hw2⟩; subst hw2)) | (go_at_call 140; refine (unhide HSEC _).mono ?_; rintro e w2 ⟨rfl, hw2⟩; subst hw2))
            exact bodyPost_ret (v := ptRes (some ⟨2, (t : Int) + 1, d, p, 7, m⟩)) (by simp [results, Fagg.results142, go_sem, hc1, ptRes, ptV, Pt.nil]) rfl ⟨by rw [unhide HF], below_set6 (unhide HL) (by omega) _ _ _ _ _ _⟩
          · have hk0' : (md != k) = true := by simp [hk0]
            have HF := hide (show structsOf xs low (t : Int) k = none by rw [HST, if_pos (.inr hk0)])
            clear HST
            go_enter Fagg.func142, Fagg.ntmps142
            go_wp2_with (first | (go_at_call 141; refine (unhide HSP _).mono ?_; rintro e w1 ⟨rfl, hb1⟩; have hc0 := fun o => hb1.cell (p := ⟨w.heap.size, o, none⟩) (by simp; omega); have hc1 := fun o => hb1.cell (p := ⟨w.heap.size + 1, o, none⟩) (by simp); have hf1 := fun o => hb1.frozen (p := ⟨w.heap.size + 1, o, none⟩) (by simp); have htg := (hb1.cell (p := ⟨b, off + t, none⟩) (by simp; omega)).trans ((World.cell?_alloc_lt _ _ _ (by simp; omega)).trans ((World.cell?_alloc_lt _ _ _ hbw).trans htag)); have HL := hide (hB2.trans (hb1.mono hB2.size))) | (go_at_call 67; first | (with_reducible refine (unhide HT1 _).mono ?_; rintro e w2 ⟨rfl, hw2⟩; subst hw2) | (with_reducible refine (unhide HT2 _).mono ?_; rintro e w2 ⟨rfl, hw2⟩; subst hw2)) | (go_at_call 140; refine (unhide HSEC _).mono ?_; rintro e w2 ⟨rfl, hw2⟩; subst hw2))
            exact bodyPost_ret (v := ptRes none) (by simp [results, Fagg.results142, go_sem, hc1, ptRes, ptV, Pt.nil]) rfl ⟨by rw [unhide HF], below_set6 (unhide HL) (by omega) _ _ _ _ _ _⟩
    · have hr0' : (r != 0) = true := by simp [hr0]
      have HF := hide (show structsOf xs low (t : Int) k = none by rw [HST, if_pos (.inr (.inl hr0))])
      clear HST
      go_enter Fagg.func142, Fagg.ntmps142
      go_wp2_with (first | (go_at_call 141; refine (unhide HSP _).mono ?_; rintro e w1 ⟨rfl, hb1⟩; have hc0 := fun o => hb1.cell (p := ⟨w.heap.size, o, none⟩) (by simp; omega); have hc1 := fun o => hb1.cell (p := ⟨w.heap.size + 1, o, none⟩) (by simp); have hf1 := fun o => hb1.frozen (p := ⟨w.heap.size + 1, o, none⟩) (by simp); have htg := (hb1.cell (p := ⟨b, off + t, none⟩) (by simp; omega)).trans ((World.cell?_alloc_lt _ _ _ (by simp; omega)).trans ((World.cell?_alloc_lt _ _ _ hbw).trans htag)); have HL := hide (hB2.trans (hb1.mono hB2.size))) | (go_at_call 67; first | (with_reducible refine (unhide HT1 _).mono ?_; rintro e w2 ⟨rfl, hw2⟩; subst hw2) | (with_reducible refine (unhide HT2 _).mono ?_; rintro e w2 ⟨rfl, hw2⟩; subst hw2)) | (go_at_call 140; refine (unhide HSEC _).mono ?_; rintro e w2 ⟨rfl, hw2⟩; subst hw2))
      exact bodyPost_ret (v := ptRes none) (by simp [results, Fagg.results142, go_sem, hc1, ptRes, ptV, Pt.nil]) rfl ⟨by rw [unhide HF], below_set6 (unhide HL) (by omega) _ _ _ _ _ _⟩

set_option maxHeartbeats 1000000 in
set_option maxRecDepth 100000 in
theorem structs_any (a : Option Addr) (n c : Nat) (xs : List Int) (low tt k : Int) (w : World) (hs : Sl .u64 w a xs) (hxn : xs.length = n) (hw : Wds xs) (hn : n ≤ 256) (hlow : 0 ≤ low ∧ low ≤ 1) (hto : -1073741824 ≤ tt ∧ tt ≤ 1073741824) (hk : 0 ≤ k) (hk2 : k < 536870912) :
    Calls Fagg.prog 142 #[.agg #[.slice a n c, .int .u16 low], .int .i32 tt, .int .i32 k] w fun e w' => e = .returned (ptRes (structsOf xs low tt k)) ∧ Below w.heap.size w w' := by
  cases hsp : spansB n low tt (k + 1) with
  | false =>
    have HSP := hide (fun W => spans_any a n c low tt (k + 1) W hn hlow hto (by omega))
    rw [hsp] at HSP
    have HF := hide (structsOf_out (xs := xs) (low := low) (tt := tt) (k := k) (by rw [hxn]; exact hsp))
    have hB2 : Below w.heap.size w ((w.alloc (Obj.cells #[Value.slice a n c, Value.int IntKind.u16 low] 254)).alloc (Obj.cells #[Value.int IntKind.u8 0, Value.int IntKind.u16 0, Value.int IntKind.u8 0, Value.int IntKind.u8 0, Value.int IntKind.u8 0, Value.int IntKind.u16 0] 58)) := (((Below.refl _ _).alloc (Nat.le_refl _) _).alloc (by simp) _)
    clear hsp hs hw
    go_enter Fagg.func142, Fagg.ntmps142
    go_wp2_with (first | (go_at_call 141; refine (unhide HSP _).mono ?_; rintro e w1 ⟨rfl, hb1⟩; have hc0 := fun o => hb1.cell (p := ⟨w.heap.size, o, none⟩) (by simp; omega); have hc1 := fun o => hb1.cell (p := ⟨w.heap.size + 1, o, none⟩) (by simp); have hf1 := fun o => hb1.frozen (p := ⟨w.heap.size + 1, o, none⟩) (by simp);  have HL := hide (hB2.trans (hb1.mono hB2.size))))
    exact bodyPost_ret (v := ptRes none) (by simp [results, Fagg.results142, go_sem, hc1, ptRes, ptV, Pt.nil]) rfl ⟨by rw [unhide HF], below_set6 (unhide HL) (by omega) _ _ _ _ _ _⟩
  | true =>
    have hb := hsp
    unfold spansB at hb
    rw [if_neg (by omega)] at hb
    simp at hb
    obtain ⟨t, rfl⟩ : ∃ t : Nat, tt = (t : Int) := ⟨tt.toNat, by omega⟩
    obtain ⟨b, off, rfl, hc⟩ := hs.at (i := t) (by omega)
    have hct := hc t (by omega)
    have hx := hw t
    exact structs_in b off n c t xs low k _ _ _ _ w hn hlow hk hk2 hsp (by omega) (World.block_lt_of_cell? w _ hct) hct hx.1 (by omega) rfl rfl rfl (structsOf_in (by rw [hxn]; exact hsp) rfl rfl rfl rfl)
end Go.Proofs.Ygcfag
