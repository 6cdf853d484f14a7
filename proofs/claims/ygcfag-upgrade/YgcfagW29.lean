/-
  WALKS: wire.ResolveWord.
-/
import Derived.Test.YgcfagW28
namespace Go.Proofs.Ygcfag
open Go.RowKit
set_option linter.unusedVariables false
set_option linter.unusedSimpArgs false

theorem readOf_nz {a : List Int} {w base low : Int} (h : w ≠ 0) : readOf a w base low = readNZ a w base low := by unfold readOf; rw [if_neg h]

set_option maxHeartbeats 2000000 in
set_option maxRecDepth 100000 in
theorem resolveWord_any (a : Option Addr) (n c : Nat) (xs : List Int) (x base low : Int) (w : World) (hs : Sl .u64 w a xs) (hxn : xs.length = n) (hw : Wds xs) (hn : n ≤ 256) (hx0 : 0 ≤ x) (hx1 : x < 18446744073709551616) (hba : 0 ≤ base ∧ base ≤ 65535) (hlow : 0 ≤ low ∧ low ≤ 1) :
    Calls Fagg.prog 68 #[.slice a n c, .int .u64 x, .int .u16 base, .int .u16 low] w fun e w' => e = .returned (ptRes (readOf xs x base low)) ∧ Below w.heap.size w w' := by
  have e256 : ¬ (n : Int) > 256 := by omega
  by_cases hx : x = 0
  · subst hx
    have HF := hide (show readOf xs 0 base low = some Pt.nil by unfold readOf; simp)
    clear hs hw
    go_enter Fagg.func68, Fagg.ntmps68
    go_wp2_with fail
    exact bodyPost_ret (v := ptRes (some Pt.nil)) (by simp [results, Fagg.results68, go_sem, ptRes, ptV, Pt.nil]) rfl ⟨by rw [unhide HF], ((Below.refl _ _).alloc (Nat.le_refl _) _)⟩
  have ex : (x == 0) = false := by simp [hx]
  have hsg := sgn30_bd (x / 4)
  have HSG := hide (fun W => sign_any (x / 4) W (by omega) (by omega))
  have HT1 := hide (fun W => take_0_2 x W hx0 hx1)
  have HT2 := hide (fun W => take_32_3 x W hx0 hx1)
  have HT3 := hide (fun W => take_35_29 x W hx0 hx1)
  have HSEC := hide (fun W => sections_any x W hx0 hx1)
  have HRD := hide (show readOf xs x base low = _ by rw [readOf_nz hx, readNZ])
  have hdb := data_bd x
  have hpb := ptrs_bd x
  have hB2 : Below w.heap.size w ((w.alloc (Obj.cells #[Value.int IntKind.u8 0, Value.int IntKind.u16 0, Value.int IntKind.u8 0, Value.int IntKind.u8 0, Value.int IntKind.u8 0, Value.int IntKind.u16 0] 58)).alloc (Obj.cells #[Value.slice a n c, Value.int IntKind.u16 low] 254)) := (((Below.refl _ _).alloc (Nat.le_refl _) _).alloc (by simp) _)
  have hrb : 0 ≤ x % 4 ∧ x % 4 ≤ 3 := by omega
  have e35 : x / 34359738368 % 536870912 = x / 34359738368 := by omega
  have hkb : 0 ≤ x / 34359738368 ∧ x / 34359738368 < 536870912 := by omega
  have hcb : 0 ≤ x / 4294967296 % 8 ∧ x / 4294967296 % 8 ≤ 7 := by omega
  rw [e35] at HT3
  have HSP := hide (fun W => spans_any a n c low (base + sgn30 (x / 4)) (dataOf x + ptrsOf x) W hn hlow (by omega) (by omega))
  have HSTR := hide (fun W (hW : Below w.heap.size w W) => structs_any a n c xs low (base + sgn30 (x / 4)) (x / 34359738368) W (hs.below hW) hxn hw hn hlow (by omega) hkb.1 hkb.2)
  have HPL := hide (fun (W : World) (h6 : x / 4294967296 % 8 ≤ 6) => plain_any a n c low (base + sgn30 (x / 4)) (x / 4294967296 % 8) (x / 34359738368) W hn hlow (by omega) hcb.1 h6 hkb.1 hkb.2)
  rw [hxn] at HRD
  clear hs hw e35 hxn
  have hszd : sizedB x = decide (dataOf x ≤ 8 ∧ ptrsOf x ≤ 8) := rfl
  generalize sgn30 (x / 4) = g at *
  generalize dataOf x = d at *
  generalize ptrsOf x = p at *
  generalize x % 4 = r at *
  generalize x / 4294967296 % 8 = cd at *
  generalize x / 34359738368 = k at *
  generalize htt : base + g = tt at *
  by_cases hr : r = 0
  · subst hr
    rw [if_pos rfl] at HRD
    cases hsz : sizedB x with
    | false =>
      rw [hsz] at HSEC HRD
      simp only [Bool.false_eq_true, if_false] at HSEC
      have HF := hide (show readOf xs x base low = none by rw [unhide HRD, if_pos (.inl rfl)])
      clear HRD
      go_enter Fagg.func68, Fagg.ntmps68
      go_wp2_with (first | (go_at_call 139; refine (unhide HSG _).mono ?_; rintro e w3 ⟨rfl, hw3⟩; subst hw3) | (go_at_call 67; first | (with_reducible refine (unhide HT1 _).mono ?_; rintro e w2 ⟨rfl, hw2⟩; subst hw2) | (with_reducible refine (unhide HT2 _).mono ?_; rintro e w2 ⟨rfl, hw2⟩; subst hw2) | (with_reducible refine (unhide HT3 _).mono ?_; rintro e w2 ⟨rfl, hw2⟩; subst hw2)) | (go_at_call 140; refine (unhide HSEC _).mono ?_; rintro e w2 ⟨rfl, hw2⟩; subst hw2) | (go_at_call 141; refine (unhide HSP _).mono ?_; rintro e w1 ⟨rfl, hb1⟩; have hc1 := fun o => hb1.cell (p := ⟨w.heap.size, o, none⟩) (by simp; omega); have hf1 := fun o => hb1.frozen (p := ⟨w.heap.size, o, none⟩) (by simp; omega); have HL := hide (hB2.trans (hb1.mono hB2.size))) | (go_at_call 142; refine (unhide HSTR _ hB2).mono ?_; rintro e w1 ⟨rfl, hb1⟩; have hc1 := fun o => hb1.cell (p := ⟨w.heap.size, o, none⟩) (by simp; omega); have hf1 := fun o => hb1.frozen (p := ⟨w.heap.size, o, none⟩) (by simp; omega); have HL := hide (hB2.trans (hb1.mono hB2.size))) | (go_at_call 143; refine (unhide HPL _).mono ?_; rintro e w1 ⟨rfl, hb1⟩; have hc1 := fun o => hb1.cell (p := ⟨w.heap.size, o, none⟩) (by simp; omega); have hf1 := fun o => hb1.frozen (p := ⟨w.heap.size, o, none⟩) (by simp; omega); have HL := hide (hB2.trans (hb1.mono hB2.size))))
      exact bodyPost_ret (v := ptRes none) (by simp [results, Fagg.results68, go_sem, ptRes, ptV, Pt.nil]) rfl ⟨by rw [unhide HF], (((Below.refl _ _).alloc (Nat.le_refl _) _).alloc (by simp) _)⟩
    | true =>
      rw [hsz] at HSEC HRD
      rw [hsz] at hszd
      have hsd : d ≤ 8 ∧ p ≤ 8 := by simpa using hszd.symm
      simp only [if_true] at HSEC
      clear hszd
      cases hsp : spansB n low tt (d + p) with
      | false =>
        rw [hsp] at HSP HRD
        have HF := hide (show readOf xs x base low = none by rw [unhide HRD, if_pos (.inr rfl)])
        clear HRD
        go_enter Fagg.func68, Fagg.ntmps68
        go_wp2_with (first | (go_at_call 139; refine (unhide HSG _).mono ?_; rintro e w3 ⟨rfl, hw3⟩; subst hw3) | (go_at_call 67; first | (with_reducible refine (unhide HT1 _).mono ?_; rintro e w2 ⟨rfl, hw2⟩; subst hw2) | (with_reducible refine (unhide HT2 _).mono ?_; rintro e w2 ⟨rfl, hw2⟩; subst hw2) | (with_reducible refine (unhide HT3 _).mono ?_; rintro e w2 ⟨rfl, hw2⟩; subst hw2)) | (go_at_call 140; refine (unhide HSEC _).mono ?_; rintro e w2 ⟨rfl, hw2⟩; subst hw2) | (go_at_call 141; refine (unhide HSP _).mono ?_; rintro e w1 ⟨rfl, hb1⟩; have hc1 := fun o => hb1.cell (p := ⟨w.heap.size, o, none⟩) (by simp; omega); have hf1 := fun o => hb1.frozen (p := ⟨w.heap.size, o, none⟩) (by simp; omega); have HL := hide (hB2.trans (hb1.mono hB2.size))) | (go_at_call 142; refine (unhide HSTR _ hB2).mono ?_; rintro e w1 ⟨rfl, hb1⟩; have hc1 := fun o => hb1.cell (p := ⟨w.heap.size, o, none⟩) (by simp; omega); have hf1 := fun o => hb1.frozen (p := ⟨w.heap.size, o, none⟩) (by simp; omega); have HL := hide (hB2.trans (hb1.mono hB2.size))) | (go_at_call 143; refine (unhide HPL _).mono ?_; rintro e w1 ⟨rfl, hb1⟩; have hc1 := fun o => hb1.cell (p := ⟨w.heap.size, o, none⟩) (by simp; omega); have hf1 := fun o => hb1.frozen (p := ⟨w.heap.size, o, none⟩) (by simp; omega); have HL := hide (hB2.trans (hb1.mono hB2.size))))
        exact bodyPost_ret (v := ptRes none) (by simp [results, Fagg.results68, go_sem, hc1, ptRes, ptV, Pt.nil]) rfl ⟨by rw [unhide HF], below_set6 (unhide HL) (by omega) _ _ _ _ _ _⟩
      | true =>
        have hbd := spansB_bd hlow.1 (by omega) hsp
        rw [hsp] at HSP HRD
        have HF := hide (show readOf xs x base low = some ⟨1, tt, d, p, 0, 0⟩ by rw [unhide HRD, if_neg (by simp)])
        clear HRD
        go_enter Fagg.func68, Fagg.ntmps68
        go_wp2_with (first | (go_at_call 139; refine (unhide HSG _).mono ?_; rintro e w3 ⟨rfl, hw3⟩; subst hw3) | (go_at_call 67; first | (with_reducible refine (unhide HT1 _).mono ?_; rintro e w2 ⟨rfl, hw2⟩; subst hw2) | (with_reducible refine (unhide HT2 _).mono ?_; rintro e w2 ⟨rfl, hw2⟩; subst hw2) | (with_reducible refine (unhide HT3 _).mono ?_; rintro e w2 ⟨rfl, hw2⟩; subst hw2)) | (go_at_call 140; refine (unhide HSEC _).mono ?_; rintro e w2 ⟨rfl, hw2⟩; subst hw2) | (go_at_call 141; refine (unhide HSP _).mono ?_; rintro e w1 ⟨rfl, hb1⟩; have hc1 := fun o => hb1.cell (p := ⟨w.heap.size, o, none⟩) (by simp; omega); have hf1 := fun o => hb1.frozen (p := ⟨w.heap.size, o, none⟩) (by simp; omega); have HL := hide (hB2.trans (hb1.mono hB2.size))) | (go_at_call 142; refine (unhide HSTR _ hB2).mono ?_; rintro e w1 ⟨rfl, hb1⟩; have hc1 := fun o => hb1.cell (p := ⟨w.heap.size, o, none⟩) (by simp; omega); have hf1 := fun o => hb1.frozen (p := ⟨w.heap.size, o, none⟩) (by simp; omega); have HL := hide (hB2.trans (hb1.mono hB2.size))) | (go_at_call 143; refine (unhide HPL _).mono ?_; rintro e w1 ⟨rfl, hb1⟩; have hc1 := fun o => hb1.cell (p := ⟨w.heap.size, o, none⟩) (by simp; omega); have hf1 := fun o => hb1.frozen (p := ⟨w.heap.size, o, none⟩) (by simp; omega); have HL := hide (hB2.trans (hb1.mono hB2.size))))
        exact bodyPost_ret (v := ptRes (some ⟨1, tt, d, p, 0, 0⟩)) (by simp [results, Fagg.results68, go_sem, hc1, ptRes, ptV, Pt.nil]) rfl ⟨by rw [unhide HF], below_set6 (unhide HL) (by omega) _ _ _ _ _ _⟩
  · have er0 : (r == 0) = false := by simp [hr]
    rw [if_neg hr] at HRD
    clear hszd
    by_cases hr1 : r = 1
    · subst hr1
      rw [if_pos rfl] at HRD
      by_cases h7 : cd = 7
      · subst h7
        rw [if_pos rfl] at HRD
        generalize structsOf xs low tt k = o at *
        have HF := HRD
        clear HRD HPL
        cases o with
        | none =>
          simp only [ptRes, ptV, Pt.nil] at HSTR
          go_enter Fagg.func68, Fagg.ntmps68
          go_wp2_with (first | (go_at_call 139; refine (unhide HSG _).mono ?_; rintro e w3 ⟨rfl, hw3⟩; subst hw3) | (go_at_call 67; first | (with_reducible refine (unhide HT1 _).mono ?_; rintro e w2 ⟨rfl, hw2⟩; subst hw2) | (with_reducible refine (unhide HT2 _).mono ?_; rintro e w2 ⟨rfl, hw2⟩; subst hw2) | (with_reducible refine (unhide HT3 _).mono ?_; rintro e w2 ⟨rfl, hw2⟩; subst hw2)) | (go_at_call 140; refine (unhide HSEC _).mono ?_; rintro e w2 ⟨rfl, hw2⟩; subst hw2) | (go_at_call 141; refine (unhide HSP _).mono ?_; rintro e w1 ⟨rfl, hb1⟩; have hc1 := fun o => hb1.cell (p := ⟨w.heap.size, o, none⟩) (by simp; omega); have hf1 := fun o => hb1.frozen (p := ⟨w.heap.size, o, none⟩) (by simp; omega); have HL := hide (hB2.trans (hb1.mono hB2.size))) | (go_at_call 142; refine (unhide HSTR _ hB2).mono ?_; rintro e w1 ⟨rfl, hb1⟩; have hc1 := fun o => hb1.cell (p := ⟨w.heap.size, o, none⟩) (by simp; omega); have hf1 := fun o => hb1.frozen (p := ⟨w.heap.size, o, none⟩) (by simp; omega); have HL := hide (hB2.trans (hb1.mono hB2.size))) | (go_at_call 143; refine (unhide HPL _).mono ?_; rintro e w1 ⟨rfl, hb1⟩; have hc1 := fun o => hb1.cell (p := ⟨w.heap.size, o, none⟩) (by simp; omega); have hf1 := fun o => hb1.frozen (p := ⟨w.heap.size, o, none⟩) (by simp; omega); have HL := hide (hB2.trans (hb1.mono hB2.size))))
          exact bodyPost_ret (v := ptRes none) (by simp [results, Fagg.results68, go_sem, hc1, ptRes, ptV, Pt.nil]) rfl ⟨by rw [unhide HF], below_set6 (unhide HL) (by omega) _ _ _ _ _ _⟩
        | some q =>
          simp only [ptRes, ptV] at HSTR
          go_enter Fagg.func68, Fagg.ntmps68
          go_wp2_with (first | (go_at_call 139; refine (unhide HSG _).mono ?_; rintro e w3 ⟨rfl, hw3⟩; subst hw3) | (go_at_call 67; first | (with_reducible refine (unhide HT1 _).mono ?_; rintro e w2 ⟨rfl, hw2⟩; subst hw2) | (with_reducible refine (unhide HT2 _).mono ?_; rintro e w2 ⟨rfl, hw2⟩; subst hw2) | (with_reducible refine (unhide HT3 _).mono ?_; rintro e w2 ⟨rfl, hw2⟩; subst hw2)) | (go_at_call 140; refine (unhide HSEC _).mono ?_; rintro e w2 ⟨rfl, hw2⟩; subst hw2) | (go_at_call 141; refine (unhide HSP _).mono ?_; rintro e w1 ⟨rfl, hb1⟩; have hc1 := fun o => hb1.cell (p := ⟨w.heap.size, o, none⟩) (by simp; omega); have hf1 := fun o => hb1.frozen (p := ⟨w.heap.size, o, none⟩) (by simp; omega); have HL := hide (hB2.trans (hb1.mono hB2.size))) | (go_at_call 142; refine (unhide HSTR _ hB2).mono ?_; rintro e w1 ⟨rfl, hb1⟩; have hc1 := fun o => hb1.cell (p := ⟨w.heap.size, o, none⟩) (by simp; omega); have hf1 := fun o => hb1.frozen (p := ⟨w.heap.size, o, none⟩) (by simp; omega); have HL := hide (hB2.trans (hb1.mono hB2.size))) | (go_at_call 143; refine (unhide HPL _).mono ?_; rintro e w1 ⟨rfl, hb1⟩; have hc1 := fun o => hb1.cell (p := ⟨w.heap.size, o, none⟩) (by simp; omega); have hf1 := fun o => hb1.frozen (p := ⟨w.heap.size, o, none⟩) (by simp; omega); have HL := hide (hB2.trans (hb1.mono hB2.size))))
          exact bodyPost_ret (v := ptRes (some q)) (by simp [results, Fagg.results68, go_sem, hc1, ptRes, ptV, Pt.nil]) rfl ⟨by rw [unhide HF], below_set6 (unhide HL) (by omega) _ _ _ _ _ _⟩
      · have e7 : (cd == 7) = false := by simp [h7]
        rw [if_neg h7] at HRD
        have HPL := hide (fun W => unhide HPL W (by omega))
        generalize plainOf n low tt cd k = o at *
        have HF := HRD
        clear HRD HSTR
        cases o with
        | none =>
          simp only [ptRes, ptV, Pt.nil] at HPL
          go_enter Fagg.func68, Fagg.ntmps68
          go_wp2_with (first | (go_at_call 139; refine (unhide HSG _).mono ?_; rintro e w3 ⟨rfl, hw3⟩; subst hw3) | (go_at_call 67; first | (with_reducible refine (unhide HT1 _).mono ?_; rintro e w2 ⟨rfl, hw2⟩; subst hw2) | (with_reducible refine (unhide HT2 _).mono ?_; rintro e w2 ⟨rfl, hw2⟩; subst hw2) | (with_reducible refine (unhide HT3 _).mono ?_; rintro e w2 ⟨rfl, hw2⟩; subst hw2)) | (go_at_call 140; refine (unhide HSEC _).mono ?_; rintro e w2 ⟨rfl, hw2⟩; subst hw2) | (go_at_call 141; refine (unhide HSP _).mono ?_; rintro e w1 ⟨rfl, hb1⟩; have hc1 := fun o => hb1.cell (p := ⟨w.heap.size, o, none⟩) (by simp; omega); have hf1 := fun o => hb1.frozen (p := ⟨w.heap.size, o, none⟩) (by simp; omega); have HL := hide (hB2.trans (hb1.mono hB2.size))) | (go_at_call 142; refine (unhide HSTR _ hB2).mono ?_; rintro e w1 ⟨rfl, hb1⟩; have hc1 := fun o => hb1.cell (p := ⟨w.heap.size, o, none⟩) (by simp; omega); have hf1 := fun o => hb1.frozen (p := ⟨w.heap.size, o, none⟩) (by simp; omega); have HL := hide (hB2.trans (hb1.mono hB2.size))) | (go_at_call 143; refine (unhide HPL _).mono ?_; rintro e w1 ⟨rfl, hb1⟩; have hc1 := fun o => hb1.cell (p := ⟨w.heap.size, o, none⟩) (by simp; omega); have hf1 := fun o => hb1.frozen (p := ⟨w.heap.size, o, none⟩) (by simp; omega); have HL := hide (hB2.trans (hb1.mono hB2.size))))
          exact bodyPost_ret (v := ptRes none) (by simp [results, Fagg.results68, go_sem, hc1, ptRes, ptV, Pt.nil]) rfl ⟨by rw [unhide HF], below_set6 (unhide HL) (by omega) _ _ _ _ _ _⟩
        | some q =>
          simp only [ptRes, ptV] at HPL
          go_enter Fagg.func68, Fagg.ntmps68
          go_wp2_with (first | (go_at_call 139; refine (unhide HSG _).mono ?_; rintro e w3 ⟨rfl, hw3⟩; subst hw3) | (go_at_call 67; first | (with_reducible refine (unhide HT1 _).mono ?_; rintro e w2 ⟨rfl, hw2⟩; subst hw2) | (with_reducible refine (unhide HT2 _).mono ?_; rintro e w2 ⟨rfl, hw2⟩; subst hw2) | (with_reducible refine (unhide HT3 _).mono ?_; rintro e w2 ⟨rfl, hw2⟩; subst hw2)) | (go_at_call 140; refine (unhide HSEC _).mono ?_; rintro e w2 ⟨rfl, hw2⟩; subst hw2) | (go_at_call 141; refine (unhide HSP _).mono ?_; rintro e w1 ⟨rfl, hb1⟩; have hc1 := fun o => hb1.cell (p := ⟨w.heap.size, o, none⟩) (by simp; omega); have hf1 := fun o => hb1.frozen (p := ⟨w.heap.size, o, none⟩) (by simp; omega); have HL := hide (hB2.trans (hb1.mono hB2.size))) | (go_at_call 142; refine (unhide HSTR _ hB2).mono ?_; rintro e w1 ⟨rfl, hb1⟩; have hc1 := fun o => hb1.cell (p := ⟨w.heap.size, o, none⟩) (by simp; omega); have hf1 := fun o => hb1.frozen (p := ⟨w.heap.size, o, none⟩) (by simp; omega); have HL := hide (hB2.trans (hb1.mono hB2.size))) | (go_at_call 143; refine (unhide HPL _).mono ?_; rintro e w1 ⟨rfl, hb1⟩; have hc1 := fun o => hb1.cell (p := ⟨w.heap.size, o, none⟩) (by simp; omega); have hf1 := fun o => hb1.frozen (p := ⟨w.heap.size, o, none⟩) (by simp; omega); have HL := hide (hB2.trans (hb1.mono hB2.size))))
          exact bodyPost_ret (v := ptRes (some q)) (by simp [results, Fagg.results68, go_sem, hc1, ptRes, ptV, Pt.nil]) rfl ⟨by rw [unhide HF], below_set6 (unhide HL) (by omega) _ _ _ _ _ _⟩
    · have er1 : (r == 1) = false := by simp [hr1]
      rw [if_neg hr1] at HRD
      have HF := HRD
      clear HRD
      go_enter Fagg.func68, Fagg.ntmps68
      go_wp2_with (first | (go_at_call 139; refine (unhide HSG _).mono ?_; rintro e w3 ⟨rfl, hw3⟩; subst hw3) | (go_at_call 67; first | (with_reducible refine (unhide HT1 _).mono ?_; rintro e w2 ⟨rfl, hw2⟩; subst hw2) | (with_reducible refine (unhide HT2 _).mono ?_; rintro e w2 ⟨rfl, hw2⟩; subst hw2) | (with_reducible refine (unhide HT3 _).mono ?_; rintro e w2 ⟨rfl, hw2⟩; subst hw2)) | (go_at_call 140; refine (unhide HSEC _).mono ?_; rintro e w2 ⟨rfl, hw2⟩; subst hw2) | (go_at_call 141; refine (unhide HSP _).mono ?_; rintro e w1 ⟨rfl, hb1⟩; have hc1 := fun o => hb1.cell (p := ⟨w.heap.size, o, none⟩) (by simp; omega); have hf1 := fun o => hb1.frozen (p := ⟨w.heap.size, o, none⟩) (by simp; omega); have HL := hide (hB2.trans (hb1.mono hB2.size))) | (go_at_call 142; refine (unhide HSTR _ hB2).mono ?_; rintro e w1 ⟨rfl, hb1⟩; have hc1 := fun o => hb1.cell (p := ⟨w.heap.size, o, none⟩) (by simp; omega); have hf1 := fun o => hb1.frozen (p := ⟨w.heap.size, o, none⟩) (by simp; omega); have HL := hide (hB2.trans (hb1.mono hB2.size))) | (go_at_call 143; refine (unhide HPL _).mono ?_; rintro e w1 ⟨rfl, hb1⟩; have hc1 := fun o => hb1.cell (p := ⟨w.heap.size, o, none⟩) (by simp; omega); have hf1 := fun o => hb1.frozen (p := ⟨w.heap.size, o, none⟩) (by simp; omega); have HL := hide (hB2.trans (hb1.mono hB2.size))))
      exact bodyPost_ret (v := ptRes none) (by simp [results, Fagg.results68, go_sem, ptRes, ptV, Pt.nil]) rfl ⟨by rw [unhide HF], (((Below.refl _ _).alloc (Nat.le_refl _) _).alloc (by simp) _)⟩
end Go.Proofs.Ygcfag
