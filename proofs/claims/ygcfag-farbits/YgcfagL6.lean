/-
  LAW 6: FarBits.
-/
import Derived.Test.YgcfagW52
import Derived.Test.YgcfagW23
import Derived.Test.YgcfagL13
namespace Go.Proofs.Ygcfag
open Go.RowKit
set_option linter.unusedVariables false
set_option linter.unusedSimpArgs false

structure Q7 (w : World) (G : Nat) (x0 x1 x2 x3 x4 x5 x6 : Int) : Prop where
  c0 : w.cell? ⟨G, 0, none⟩ = some (.int .u8 x0)
  c1 : w.cell? ⟨G, 1, none⟩ = some (.int .u8 x1)
  c2 : w.cell? ⟨G, 2, none⟩ = some (.int .u16 x2)
  c3 : w.cell? ⟨G, 3, none⟩ = some (.int .u8 x3)
  c4 : w.cell? ⟨G, 4, none⟩ = some (.int .u8 x4)
  c5 : w.cell? ⟨G, 5, none⟩ = some (.int .u8 x5)
  c6 : w.cell? ⟨G, 6, none⟩ = some (.int .u16 x6)
structure Q3 (w : World) (G : Nat) (y0 y1 y2 : Int) : Prop where
  c0 : w.cell? ⟨G, 0, none⟩ = some (.int .u8 y0)
  c1 : w.cell? ⟨G, 1, none⟩ = some (.int .u16 y1)
  c2 : w.cell? ⟨G, 2, none⟩ = some (.int .u8 y2)

theorem Q7.below {w w' : World} {G : Nat} {x0 x1 x2 x3 x4 x5 x6 : Int} (h : Q7 w G x0 x1 x2 x3 x4 x5 x6) (hb : Below w.heap.size w w') : Q7 w' G x0 x1 x2 x3 x4 x5 x6 := by
  have hg := World.block_lt_of_cell? w _ h.c0
  exact ⟨(hb.cell (p := ⟨G, 0, none⟩) hg).trans h.c0, (hb.cell (p := ⟨G, 1, none⟩) hg).trans h.c1, (hb.cell (p := ⟨G, 2, none⟩) hg).trans h.c2, (hb.cell (p := ⟨G, 3, none⟩) hg).trans h.c3, (hb.cell (p := ⟨G, 4, none⟩) hg).trans h.c4, (hb.cell (p := ⟨G, 5, none⟩) hg).trans h.c5, (hb.cell (p := ⟨G, 6, none⟩) hg).trans h.c6⟩
theorem Q3.below {w w' : World} {G : Nat} {y0 y1 y2 : Int} (h : Q3 w G y0 y1 y2) (hb : Below w.heap.size w w') : Q3 w' G y0 y1 y2 := by
  have hg := World.block_lt_of_cell? w _ h.c0
  exact ⟨(hb.cell (p := ⟨G, 0, none⟩) hg).trans h.c0, (hb.cell (p := ⟨G, 1, none⟩) hg).trans h.c1, (hb.cell (p := ⟨G, 2, none⟩) hg).trans h.c2⟩
theorem q7_new (w : World) (x0 x1 x2 x3 x4 x5 x6 : Int) : Q7 (w.alloc (Obj.cells #[Value.int IntKind.u8 x0, Value.int IntKind.u8 x1, Value.int IntKind.u16 x2, Value.int IntKind.u8 x3, Value.int IntKind.u8 x4, Value.int IntKind.u8 x5, Value.int IntKind.u16 x6] 60)) w.heap.size x0 x1 x2 x3 x4 x5 x6 := ⟨by simp, by simp, by simp, by simp, by simp, by simp, by simp⟩
theorem q3_new (w : World) (y0 y1 y2 : Int) : Q3 (w.alloc (Obj.cells #[Value.int IntKind.u8 y0, Value.int IntKind.u16 y1, Value.int IntKind.u8 y2] 62)) w.heap.size y0 y1 y2 := ⟨by simp, by simp, by simp⟩
theorem z7_new (u : World) : Z7 (u.alloc (Obj.cells #[Value.int IntKind.u8 0, Value.int IntKind.u8 0, Value.int IntKind.u16 0, Value.int IntKind.u8 0, Value.int IntKind.u8 0, Value.int IntKind.u8 0, Value.int IntKind.u16 0] 60)) u.heap.size := ⟨by simp, by simp, by simp, by simp, by simp, by simp, by simp, by simp, by simp, by simp, by simp, by simp, by simp, by simp⟩

theorem bel1 (w : World) (o : Obj) : Below w.heap.size w (w.alloc o) := (Below.refl _ _).alloc (Nat.le_refl _) o
theorem size1 (w : World) (o : Obj) : (w.alloc o).heap.size = w.heap.size + 1 := by simp
theorem below4 {w u : World} (h : Below w.heap.size w u) (o1 o2 o3 o4 : Obj) : Below w.heap.size w ((((u.alloc o1).alloc o2).alloc o3).alloc o4) := by
  have hs := h.size
  have b1 := h.trans ((bel1 u o1).mono hs)
  have b2 := b1.trans ((bel1 (u.alloc o1) o2).mono b1.size)
  have b3 := b2.trans ((bel1 ((u.alloc o1).alloc o2) o3).mono b2.size)
  exact b3.trans ((bel1 (((u.alloc o1).alloc o2).alloc o3) o4).mono b3.size)

theorem four_made {w w1 : World} {x0 x1 x2 x3 x4 x5 x6 y0 y1 y2 : Int} (h : w1 = ((((w.alloc (Obj.cells #[Value.int IntKind.u8 x0, Value.int IntKind.u8 x1, Value.int IntKind.u16 x2, Value.int IntKind.u8 x3, Value.int IntKind.u8 x4, Value.int IntKind.u8 x5, Value.int IntKind.u16 x6] 60)).alloc (Obj.cells #[Value.int IntKind.u8 y0, Value.int IntKind.u16 y1, Value.int IntKind.u8 y2] 62)).alloc (Obj.cells #[Value.int IntKind.u8 0, Value.int IntKind.u8 0, Value.int IntKind.u16 0, Value.int IntKind.u8 0, Value.int IntKind.u8 0, Value.int IntKind.u8 0, Value.int IntKind.u16 0] 60)).alloc (Obj.cells #[Value.int IntKind.u8 0, Value.int IntKind.u16 0, Value.int IntKind.u8 0] 62))) : Below w.heap.size w w1 ∧ Q7 w1 w.heap.size x0 x1 x2 x3 x4 x5 x6 ∧ Q3 w1 (w.heap.size + 1) y0 y1 y2 ∧ Z7 w1 (w.heap.size + 1 + 1) ∧ Z3 w1 (w.heap.size + 1 + 1 + 1) := by
  subst h
  have a1 := q7_new w x0 x1 x2 x3 x4 x5 x6
  have a2 := q3_new (w.alloc (Obj.cells #[Value.int IntKind.u8 x0, Value.int IntKind.u8 x1, Value.int IntKind.u16 x2, Value.int IntKind.u8 x3, Value.int IntKind.u8 x4, Value.int IntKind.u8 x5, Value.int IntKind.u16 x6] 60)) y0 y1 y2
  have a3 := z7_new ((w.alloc (Obj.cells #[Value.int IntKind.u8 x0, Value.int IntKind.u8 x1, Value.int IntKind.u16 x2, Value.int IntKind.u8 x3, Value.int IntKind.u8 x4, Value.int IntKind.u8 x5, Value.int IntKind.u16 x6] 60)).alloc (Obj.cells #[Value.int IntKind.u8 y0, Value.int IntKind.u16 y1, Value.int IntKind.u8 y2] 62))
  have a4 := z3_new (((w.alloc (Obj.cells #[Value.int IntKind.u8 x0, Value.int IntKind.u8 x1, Value.int IntKind.u16 x2, Value.int IntKind.u8 x3, Value.int IntKind.u8 x4, Value.int IntKind.u8 x5, Value.int IntKind.u16 x6] 60)).alloc (Obj.cells #[Value.int IntKind.u8 y0, Value.int IntKind.u16 y1, Value.int IntKind.u8 y2] 62)).alloc (Obj.cells #[Value.int IntKind.u8 0, Value.int IntKind.u8 0, Value.int IntKind.u16 0, Value.int IntKind.u8 0, Value.int IntKind.u8 0, Value.int IntKind.u8 0, Value.int IntKind.u16 0] 60))
  generalize hu1 : w.alloc (Obj.cells #[Value.int IntKind.u8 x0, Value.int IntKind.u8 x1, Value.int IntKind.u16 x2, Value.int IntKind.u8 x3, Value.int IntKind.u8 x4, Value.int IntKind.u8 x5, Value.int IntKind.u16 x6] 60) = u1 at *
  have s1 : u1.heap.size = w.heap.size + 1 := by rw [← hu1]; exact size1 _ _
  have b1 : Below w.heap.size w u1 := by rw [← hu1]; exact bel1 _ _
  generalize hu2 : u1.alloc (Obj.cells #[Value.int IntKind.u8 y0, Value.int IntKind.u16 y1, Value.int IntKind.u8 y2] 62) = u2 at *
  have s2 : u2.heap.size = w.heap.size + 1 + 1 := by rw [← hu2, size1, s1]
  have b2 : Below u1.heap.size u1 u2 := by rw [← hu2]; exact bel1 _ _
  generalize hu3 : u2.alloc (Obj.cells #[Value.int IntKind.u8 0, Value.int IntKind.u8 0, Value.int IntKind.u16 0, Value.int IntKind.u8 0, Value.int IntKind.u8 0, Value.int IntKind.u8 0, Value.int IntKind.u16 0] 60) = u3 at *
  have s3 : u3.heap.size = w.heap.size + 1 + 1 + 1 := by rw [← hu3, size1, s2]
  have b3 : Below u2.heap.size u2 u3 := by rw [← hu3]; exact bel1 _ _
  have b4 := bel1 u3 (Obj.cells #[Value.int IntKind.u8 0, Value.int IntKind.u16 0, Value.int IntKind.u8 0] 62)
  rw [s1] at a2
  rw [s2] at a3
  rw [s3] at a4
  exact ⟨b1.trans ((b2.mono b1.size).trans ((b3.trans (b4.mono b3.size)).mono (by omega))), ((a1.below b2).below b3).below b4, (a2.below b3).below b4, a3.below b4, a4⟩

theorem eq60 (x0 x1 x2 x3 x4 x5 x6 : Int) (W : World) : (binOp .eql 60 (.agg #[.int .u8 x0, .int .u8 x1, .int .u16 x2, .int .u8 x3, .int .u8 x4, .int .u8 x5, .int .u16 x6]) (.agg #[.int .u8 x0, .int .u8 x1, .int .u16 x2, .int .u8 x3, .int .u8 x4, .int .u8 x5, .int .u16 x6])).run Fagg.prog W = .ok (.bool true) W := by
  simp [go_sem, binOp, Op.equal, Op.maxDepth]

theorem eq62 (y0 y1 y2 : Int) (W : World) : (binOp .eql 62 (.agg #[.int .u8 y0, .int .u16 y1, .int .u8 y2]) (.agg #[.int .u8 y0, .int .u16 y1, .int .u8 y2])).run Fagg.prog W = .ok (.bool true) W := by
  simp [go_sem, binOp, Op.equal, Op.maxDepth]

set_option maxHeartbeats 2000000 in
set_option maxRecDepth 100000 in
theorem farBits_in (a : Option Addr) (n c s i m : Nat) (ms : List (List Int)) (w : World) (hs : SegsAt w a ms) (hm : ms.length = m) (hmn : min n 9 = m) (hnc : n ≤ c) (hc : c ≤ 9223372036854775807) (hw : ∀ i, Wds (ms.getD i [])) (hl : ∀ m ∈ ms, m.length ≤ 17592186043904) (hs2 : s < 256) (hi : i < 65536) (hf : fitsOf ms = true) (hsn : s < m) (hil : i < (ms.getD s []).length) :
    Calls Fagg.prog 6 #[.slice a n c, .int .u8 (s : Int), .int .u16 (i : Int)] w fun e w' => e = .returned (.bool true) ∧ Below w.heap.size w w' := by
  have q60 := eq60
  have q62 := eq62
  have HCUT := hide (cut_any a n c w hnc hc)
  rw [hmn] at HCUT
  have hlm : ∀ i, (ms.getD i []).length ≤ 9223372036854775807 := fun i => by have := getD_len_le ms 17592186043904 hl i; omega
  have HRES := hide (resolve_any a m c s i ms w hs hm (by omega) hw hs2 hi hlm)
  have HOF := hide (fun W (hW : Below w.heap.size w W) => ownFits_any a m c ms W (hs.below hW) hm (by omega) hl)
  have HM1 := hide (fun W => makeFar_any s i false W hs2 hi)
  have HM2 := hide (fun W => makeFar_any s i true W hs2 hi)
  simp only [farWord, Bool.false_eq_true, if_false, if_true] at HM1 HM2
  have hff := fits_facts hf
  have e0 : resolveB ms s i = resolveOf ms s i := by unfold resolveB; rw [if_pos ⟨hf, by omega, hil⟩]
  rw [e0] at HRES
  rw [hf] at HOF
  have HOR := hide (fun W (hW : Below w.heap.size w W) => ownResolve_in a m c s i ms W (hs.below hW) hm hf hw hsn hil)
  have hl256 := hff.2.2 s
  have h8' : (s : Int) < 8 := by omega
  have h256' : (i : Int) < 256 := by omega
  have h8 : s < 8 := by omega
  have h256 : i < 256 := by omega
  simp only [h8, h256, and_self, if_true] at HM1 HM2
  have e1 : (s : Int) < (m : Int) := by omega
  obtain ⟨b, off, rfl, hbw, hcell⟩ := hs.get (by omega)
  obtain ⟨ai, ci, hci, _, _⟩ := hcell s (by omega)
  have e2 : (i : Int) < ((ms.getD s []).length : Int) := by omega
  generalize (ms.getD s []).length = L at *
  generalize resolveOf ms s i = o at *
  clear hs hw hl hlm hcell e0 hmn hf
  cases o with
  | none =>
    simp only [spRes, spP, padV, Pt.nil] at HRES HOR
    go_enter Fagg.func6, Fagg.ntmps6
    go_wp2_with (first | (go_at_call 26; with_reducible refine (unhide HCUT).mono ?_; rintro e w1 ⟨rfl, hw1⟩; subst hw1) | (go_at_call 27; with_reducible refine (unhide HRES).mono ?_; rintro e w2 ⟨rfl, hb2⟩) | (go_at_call 28; with_reducible refine (unhide HOF _ (below4 hb2 _ _ _ _)).mono ?_; rintro e w3 ⟨rfl, hw3⟩; obtain ⟨hL, QR, QP, QA, QZ⟩ := four_made hw3; clear hw3; have hL2 := hb2.trans (hL.mono hb2.size); have HQ := hide (And.intro QR (And.intro QP (And.intro QA QZ))); obtain ⟨g0, g1, g2, g3, g4, g5, g6⟩ := QR; obtain ⟨k0, k1, k2⟩ := QP; obtain ⟨a0, a1, a2, a3, a4, a5, a6, e0, e1, e2, e3, e4, e5, e6⟩ := QA; obtain ⟨z0, z1, z2, v0, v1, v2⟩ := QZ; have d1 := (hL2.cell (p := ⟨b, off + s, none⟩) hbw).trans hci) | (go_at_call 30; first | (with_reducible refine (unhide HM1 _).mono ?_; rintro e w6 ⟨rfl, hw6⟩; subst hw6) | (with_reducible refine (unhide HM2 _).mono ?_; rintro e w6 ⟨rfl, hw6⟩; subst hw6)) | (go_at_call 29; with_reducible refine (unhide HOR _ hL2).mono ?_; rintro e w4 ⟨rfl, hb4⟩; have hL3 := hL2.trans (hb4.mono hL2.size); obtain ⟨QR, QP, QA, QZ⟩ := unhide HQ; have QR := QR.below hb4; have QP := QP.below hb4; have QA := QA.below hb4; have QZ := QZ.below hb4; clear HQ g0 g1 g2 g3 g4 g5 g6 k0 k1 k2 a0 a1 a2 a3 a4 a5 a6 e0 e1 e2 e3 e4 e5 e6 z0 z1 z2 v0 v1 v2 d1; obtain ⟨g0, g1, g2, g3, g4, g5, g6⟩ := QR; obtain ⟨k0, k1, k2⟩ := QP; obtain ⟨a0, a1, a2, a3, a4, a5, a6, e0, e1, e2, e3, e4, e5, e6⟩ := QA; obtain ⟨z0, z1, z2, v0, v1, v2⟩ := QZ))
    go_ret
    exact ⟨rfl, below_set73 hL3 (by have := hb2.size; omega) (by have := hb2.size; omega) _ _ _ _ _ _ _ _ _ _⟩
  | some r =>
    simp only [spRes, spP, padV] at HRES HOR
    go_enter Fagg.func6, Fagg.ntmps6
    go_wp2_with (first | (go_at_call 26; with_reducible refine (unhide HCUT).mono ?_; rintro e w1 ⟨rfl, hw1⟩; subst hw1) | (go_at_call 27; with_reducible refine (unhide HRES).mono ?_; rintro e w2 ⟨rfl, hb2⟩) | (go_at_call 28; with_reducible refine (unhide HOF _ (below4 hb2 _ _ _ _)).mono ?_; rintro e w3 ⟨rfl, hw3⟩; obtain ⟨hL, QR, QP, QA, QZ⟩ := four_made hw3; clear hw3; have hL2 := hb2.trans (hL.mono hb2.size); have HQ := hide (And.intro QR (And.intro QP (And.intro QA QZ))); obtain ⟨g0, g1, g2, g3, g4, g5, g6⟩ := QR; obtain ⟨k0, k1, k2⟩ := QP; obtain ⟨a0, a1, a2, a3, a4, a5, a6, e0, e1, e2, e3, e4, e5, e6⟩ := QA; obtain ⟨z0, z1, z2, v0, v1, v2⟩ := QZ; have d1 := (hL2.cell (p := ⟨b, off + s, none⟩) hbw).trans hci) | (go_at_call 30; first | (with_reducible refine (unhide HM1 _).mono ?_; rintro e w6 ⟨rfl, hw6⟩; subst hw6) | (with_reducible refine (unhide HM2 _).mono ?_; rintro e w6 ⟨rfl, hw6⟩; subst hw6)) | (go_at_call 29; with_reducible refine (unhide HOR _ hL2).mono ?_; rintro e w4 ⟨rfl, hb4⟩; have hL3 := hL2.trans (hb4.mono hL2.size); obtain ⟨QR, QP, QA, QZ⟩ := unhide HQ; have QR := QR.below hb4; have QP := QP.below hb4; have QA := QA.below hb4; have QZ := QZ.below hb4; clear HQ g0 g1 g2 g3 g4 g5 g6 k0 k1 k2 a0 a1 a2 a3 a4 a5 a6 e0 e1 e2 e3 e4 e5 e6 z0 z1 z2 v0 v1 v2 d1; obtain ⟨g0, g1, g2, g3, g4, g5, g6⟩ := QR; obtain ⟨k0, k1, k2⟩ := QP; obtain ⟨a0, a1, a2, a3, a4, a5, a6, e0, e1, e2, e3, e4, e5, e6⟩ := QA; obtain ⟨z0, z1, z2, v0, v1, v2⟩ := QZ))
    go_ret
    exact ⟨rfl, below_set73 hL3 (by have := hb2.size; omega) (by have := hb2.size; omega) _ _ _ _ _ _ _ _ _ _⟩

set_option maxHeartbeats 4000000 in
set_option maxRecDepth 100000 in
theorem farBits_out (a : Option Addr) (n c s i m : Nat) (ms : List (List Int)) (w : World) (hs : SegsAt w a ms) (hm : ms.length = m) (hmn : min n 9 = m) (hnc : n ≤ c) (hc : c ≤ 9223372036854775807) (hw : ∀ i, Wds (ms.getD i [])) (hl : ∀ m ∈ ms, m.length ≤ 17592186043904) (hs2 : s < 256) (hi : i < 65536) (hin : ¬ (fitsOf ms = true ∧ s < ms.length ∧ i < (ms.getD s []).length)) :
    Calls Fagg.prog 6 #[.slice a n c, .int .u8 (s : Int), .int .u16 (i : Int)] w fun e w' => e = .returned (.bool true) ∧ Below w.heap.size w w' := by
  have q60 := eq60
  have q62 := eq62
  have HCUT := hide (cut_any a n c w hnc hc)
  rw [hmn] at HCUT
  have hlm : ∀ i, (ms.getD i []).length ≤ 9223372036854775807 := fun i => by have := getD_len_le ms 17592186043904 hl i; omega
  have HRES := hide (resolve_any a m c s i ms w hs hm (by omega) hw hs2 hi hlm)
  have HOF := hide (fun W (hW : Below w.heap.size w W) => ownFits_any a m c ms W (hs.below hW) hm (by omega) hl)
  have HM1 := hide (fun W => makeFar_any s i false W hs2 hi)
  have HM2 := hide (fun W => makeFar_any s i true W hs2 hi)
  simp only [farWord, Bool.false_eq_true, if_false, if_true] at HM1 HM2
  have e0 : resolveB ms s i = none := by unfold resolveB; rw [if_neg hin]
  rw [e0] at HRES
  simp only [spRes, spP, padV, Pt.nil] at HRES
  cases hf : fitsOf ms with
  | false =>
    rw [hf] at HOF
    clear hs hw hl hlm e0 hmn hf hin
    by_cases h8 : s < 8
    · have h8' : (s : Int) < 8 := by omega
      by_cases h256 : i < 256
      · have h256' : (i : Int) < 256 := by omega
        simp only [h8, h256, and_self, if_true] at HM1 HM2
        go_enter Fagg.func6, Fagg.ntmps6
        go_wp2_with (first | (go_at_call 26; with_reducible refine (unhide HCUT).mono ?_; rintro e w1 ⟨rfl, hw1⟩; subst hw1) | (go_at_call 27; with_reducible refine (unhide HRES).mono ?_; rintro e w2 ⟨rfl, hb2⟩) | (go_at_call 28; with_reducible refine (unhide HOF _ (below4 hb2 _ _ _ _)).mono ?_; rintro e w3 ⟨rfl, hw3⟩; obtain ⟨hL, QR, QP, QA, QZ⟩ := four_made hw3; clear hw3; have hL2 := hb2.trans (hL.mono hb2.size); obtain ⟨g0, g1, g2, g3, g4, g5, g6⟩ := QR; obtain ⟨k0, k1, k2⟩ := QP; obtain ⟨a0, a1, a2, a3, a4, a5, a6, e0, e1, e2, e3, e4, e5, e6⟩ := QA; obtain ⟨z0, z1, z2, v0, v1, v2⟩ := QZ; skip) | (go_at_call 30; first | (with_reducible refine (unhide HM1 _).mono ?_; rintro e w6 ⟨rfl, hw6⟩; subst hw6) | (with_reducible refine (unhide HM2 _).mono ?_; rintro e w6 ⟨rfl, hw6⟩; subst hw6)))
        go_ret
        exact ⟨rfl, hL2⟩
      · have h256' : ¬ (i : Int) < 256 := by omega
        simp only [h8, h256, and_false, if_false] at HM1 HM2
        go_enter Fagg.func6, Fagg.ntmps6
        go_wp2_with (first | (go_at_call 26; with_reducible refine (unhide HCUT).mono ?_; rintro e w1 ⟨rfl, hw1⟩; subst hw1) | (go_at_call 27; with_reducible refine (unhide HRES).mono ?_; rintro e w2 ⟨rfl, hb2⟩) | (go_at_call 28; with_reducible refine (unhide HOF _ (below4 hb2 _ _ _ _)).mono ?_; rintro e w3 ⟨rfl, hw3⟩; obtain ⟨hL, QR, QP, QA, QZ⟩ := four_made hw3; clear hw3; have hL2 := hb2.trans (hL.mono hb2.size); obtain ⟨g0, g1, g2, g3, g4, g5, g6⟩ := QR; obtain ⟨k0, k1, k2⟩ := QP; obtain ⟨a0, a1, a2, a3, a4, a5, a6, e0, e1, e2, e3, e4, e5, e6⟩ := QA; obtain ⟨z0, z1, z2, v0, v1, v2⟩ := QZ; skip) | (go_at_call 30; first | (with_reducible refine (unhide HM1 _).mono ?_; rintro e w6 ⟨rfl, hw6⟩; subst hw6) | (with_reducible refine (unhide HM2 _).mono ?_; rintro e w6 ⟨rfl, hw6⟩; subst hw6)))
        go_ret
        exact ⟨rfl, hL2⟩
    · have h8' : ¬ (s : Int) < 8 := by omega
      simp only [h8, false_and, if_false] at HM1 HM2
      go_enter Fagg.func6, Fagg.ntmps6
      go_wp2_with (first | (go_at_call 26; with_reducible refine (unhide HCUT).mono ?_; rintro e w1 ⟨rfl, hw1⟩; subst hw1) | (go_at_call 27; with_reducible refine (unhide HRES).mono ?_; rintro e w2 ⟨rfl, hb2⟩) | (go_at_call 28; with_reducible refine (unhide HOF _ (below4 hb2 _ _ _ _)).mono ?_; rintro e w3 ⟨rfl, hw3⟩; obtain ⟨hL, QR, QP, QA, QZ⟩ := four_made hw3; clear hw3; have hL2 := hb2.trans (hL.mono hb2.size); obtain ⟨g0, g1, g2, g3, g4, g5, g6⟩ := QR; obtain ⟨k0, k1, k2⟩ := QP; obtain ⟨a0, a1, a2, a3, a4, a5, a6, e0, e1, e2, e3, e4, e5, e6⟩ := QA; obtain ⟨z0, z1, z2, v0, v1, v2⟩ := QZ; skip) | (go_at_call 30; first | (with_reducible refine (unhide HM1 _).mono ?_; rintro e w6 ⟨rfl, hw6⟩; subst hw6) | (with_reducible refine (unhide HM2 _).mono ?_; rintro e w6 ⟨rfl, hw6⟩; subst hw6)))
      go_ret
      exact ⟨rfl, hL2⟩
  | true =>
    have hff := fits_facts hf
    rw [hf] at HOF
    by_cases hsn : s < m
    · have e1 : (s : Int) < (m : Int) := by omega
      have hls := hlm s
      obtain ⟨b, off, rfl, hbw, hcell⟩ := hs.get (by omega)
      obtain ⟨ai, ci, hci, _, _⟩ := hcell s (by omega)
      have e2 : ¬ (i : Int) < ((ms.getD s []).length : Int) := by
        have : ¬ i < (ms.getD s []).length := fun h => hin ⟨hf, by omega, h⟩
        omega
      generalize (ms.getD s []).length = L at *
      clear hs hw hl hlm hcell e0 hmn hf hin
      by_cases h8 : s < 8
      · have h8' : (s : Int) < 8 := by omega
        by_cases h256 : i < 256
        · have h256' : (i : Int) < 256 := by omega
          simp only [h8, h256, and_self, if_true] at HM1 HM2
          go_enter Fagg.func6, Fagg.ntmps6
          go_wp2_with (first | (go_at_call 26; with_reducible refine (unhide HCUT).mono ?_; rintro e w1 ⟨rfl, hw1⟩; subst hw1) | (go_at_call 27; with_reducible refine (unhide HRES).mono ?_; rintro e w2 ⟨rfl, hb2⟩) | (go_at_call 28; with_reducible refine (unhide HOF _ (below4 hb2 _ _ _ _)).mono ?_; rintro e w3 ⟨rfl, hw3⟩; obtain ⟨hL, QR, QP, QA, QZ⟩ := four_made hw3; clear hw3; have hL2 := hb2.trans (hL.mono hb2.size); obtain ⟨g0, g1, g2, g3, g4, g5, g6⟩ := QR; obtain ⟨k0, k1, k2⟩ := QP; obtain ⟨a0, a1, a2, a3, a4, a5, a6, e0, e1, e2, e3, e4, e5, e6⟩ := QA; obtain ⟨z0, z1, z2, v0, v1, v2⟩ := QZ; have d1 := (hL2.cell (p := ⟨b, off + s, none⟩) hbw).trans hci) | (go_at_call 30; first | (with_reducible refine (unhide HM1 _).mono ?_; rintro e w6 ⟨rfl, hw6⟩; subst hw6) | (with_reducible refine (unhide HM2 _).mono ?_; rintro e w6 ⟨rfl, hw6⟩; subst hw6)))
          go_ret
          exact ⟨rfl, hL2⟩
        · have h256' : ¬ (i : Int) < 256 := by omega
          simp only [h8, h256, and_false, if_false] at HM1 HM2
          go_enter Fagg.func6, Fagg.ntmps6
          go_wp2_with (first | (go_at_call 26; with_reducible refine (unhide HCUT).mono ?_; rintro e w1 ⟨rfl, hw1⟩; subst hw1) | (go_at_call 27; with_reducible refine (unhide HRES).mono ?_; rintro e w2 ⟨rfl, hb2⟩) | (go_at_call 28; with_reducible refine (unhide HOF _ (below4 hb2 _ _ _ _)).mono ?_; rintro e w3 ⟨rfl, hw3⟩; obtain ⟨hL, QR, QP, QA, QZ⟩ := four_made hw3; clear hw3; have hL2 := hb2.trans (hL.mono hb2.size); obtain ⟨g0, g1, g2, g3, g4, g5, g6⟩ := QR; obtain ⟨k0, k1, k2⟩ := QP; obtain ⟨a0, a1, a2, a3, a4, a5, a6, e0, e1, e2, e3, e4, e5, e6⟩ := QA; obtain ⟨z0, z1, z2, v0, v1, v2⟩ := QZ; have d1 := (hL2.cell (p := ⟨b, off + s, none⟩) hbw).trans hci) | (go_at_call 30; first | (with_reducible refine (unhide HM1 _).mono ?_; rintro e w6 ⟨rfl, hw6⟩; subst hw6) | (with_reducible refine (unhide HM2 _).mono ?_; rintro e w6 ⟨rfl, hw6⟩; subst hw6)))
          go_ret
          exact ⟨rfl, hL2⟩
      · exact absurd hsn (by omega)
    · have e1 : ¬ (s : Int) < (m : Int) := by omega
      clear hs hw hl hlm e0 hmn hf hin
      by_cases h8 : s < 8
      · have h8' : (s : Int) < 8 := by omega
        by_cases h256 : i < 256
        · have h256' : (i : Int) < 256 := by omega
          simp only [h8, h256, and_self, if_true] at HM1 HM2
          go_enter Fagg.func6, Fagg.ntmps6
          go_wp2_with (first | (go_at_call 26; with_reducible refine (unhide HCUT).mono ?_; rintro e w1 ⟨rfl, hw1⟩; subst hw1) | (go_at_call 27; with_reducible refine (unhide HRES).mono ?_; rintro e w2 ⟨rfl, hb2⟩) | (go_at_call 28; with_reducible refine (unhide HOF _ (below4 hb2 _ _ _ _)).mono ?_; rintro e w3 ⟨rfl, hw3⟩; obtain ⟨hL, QR, QP, QA, QZ⟩ := four_made hw3; clear hw3; have hL2 := hb2.trans (hL.mono hb2.size); obtain ⟨g0, g1, g2, g3, g4, g5, g6⟩ := QR; obtain ⟨k0, k1, k2⟩ := QP; obtain ⟨a0, a1, a2, a3, a4, a5, a6, e0, e1, e2, e3, e4, e5, e6⟩ := QA; obtain ⟨z0, z1, z2, v0, v1, v2⟩ := QZ; skip) | (go_at_call 30; first | (with_reducible refine (unhide HM1 _).mono ?_; rintro e w6 ⟨rfl, hw6⟩; subst hw6) | (with_reducible refine (unhide HM2 _).mono ?_; rintro e w6 ⟨rfl, hw6⟩; subst hw6)))
          go_ret
          exact ⟨rfl, hL2⟩
        · have h256' : ¬ (i : Int) < 256 := by omega
          simp only [h8, h256, and_false, if_false] at HM1 HM2
          go_enter Fagg.func6, Fagg.ntmps6
          go_wp2_with (first | (go_at_call 26; with_reducible refine (unhide HCUT).mono ?_; rintro e w1 ⟨rfl, hw1⟩; subst hw1) | (go_at_call 27; with_reducible refine (unhide HRES).mono ?_; rintro e w2 ⟨rfl, hb2⟩) | (go_at_call 28; with_reducible refine (unhide HOF _ (below4 hb2 _ _ _ _)).mono ?_; rintro e w3 ⟨rfl, hw3⟩; obtain ⟨hL, QR, QP, QA, QZ⟩ := four_made hw3; clear hw3; have hL2 := hb2.trans (hL.mono hb2.size); obtain ⟨g0, g1, g2, g3, g4, g5, g6⟩ := QR; obtain ⟨k0, k1, k2⟩ := QP; obtain ⟨a0, a1, a2, a3, a4, a5, a6, e0, e1, e2, e3, e4, e5, e6⟩ := QA; obtain ⟨z0, z1, z2, v0, v1, v2⟩ := QZ; skip) | (go_at_call 30; first | (with_reducible refine (unhide HM1 _).mono ?_; rintro e w6 ⟨rfl, hw6⟩; subst hw6) | (with_reducible refine (unhide HM2 _).mono ?_; rintro e w6 ⟨rfl, hw6⟩; subst hw6)))
          go_ret
          exact ⟨rfl, hL2⟩
      · have h8' : ¬ (s : Int) < 8 := by omega
        simp only [h8, false_and, if_false] at HM1 HM2
        go_enter Fagg.func6, Fagg.ntmps6
        go_wp2_with (first | (go_at_call 26; with_reducible refine (unhide HCUT).mono ?_; rintro e w1 ⟨rfl, hw1⟩; subst hw1) | (go_at_call 27; with_reducible refine (unhide HRES).mono ?_; rintro e w2 ⟨rfl, hb2⟩) | (go_at_call 28; with_reducible refine (unhide HOF _ (below4 hb2 _ _ _ _)).mono ?_; rintro e w3 ⟨rfl, hw3⟩; obtain ⟨hL, QR, QP, QA, QZ⟩ := four_made hw3; clear hw3; have hL2 := hb2.trans (hL.mono hb2.size); obtain ⟨g0, g1, g2, g3, g4, g5, g6⟩ := QR; obtain ⟨k0, k1, k2⟩ := QP; obtain ⟨a0, a1, a2, a3, a4, a5, a6, e0, e1, e2, e3, e4, e5, e6⟩ := QA; obtain ⟨z0, z1, z2, v0, v1, v2⟩ := QZ; skip) | (go_at_call 30; first | (with_reducible refine (unhide HM1 _).mono ?_; rintro e w6 ⟨rfl, hw6⟩; subst hw6) | (with_reducible refine (unhide HM2 _).mono ?_; rintro e w6 ⟨rfl, hw6⟩; subst hw6)))
        go_ret
        exact ⟨rfl, hL2⟩

theorem farBits_any (a : Option Addr) (n c s i m : Nat) (ms : List (List Int)) (w : World) (hs : SegsAt w a ms) (hm : ms.length = m) (hmn : min n 9 = m) (hnc : n ≤ c) (hc : c ≤ 9223372036854775807) (hw : ∀ i, Wds (ms.getD i [])) (hl : ∀ m ∈ ms, m.length ≤ 17592186043904) (hs2 : s < 256) (hi : i < 65536) : Calls Fagg.prog 6 #[.slice a n c, .int .u8 (s : Int), .int .u16 (i : Int)] w fun e w' => e = .returned (.bool true) ∧ Below w.heap.size w w' := by
  by_cases hin : fitsOf ms = true ∧ s < ms.length ∧ i < (ms.getD s []).length
  · exact farBits_in a n c s i m ms w hs hm hmn hnc hc hw hl hs2 hi hin.1 (by omega) hin.2.2
  · exact farBits_out a n c s i m ms w hs hm hmn hnc hc hw hl hs2 hi hin
end Go.Proofs.Ygcfag
