/-
  WALKS: seg.double and seg.Resolve, whole.
-/
import Derived.Test.YgcfagW40
import Derived.Test.YgcfagW36
namespace Go.Proofs.Ygcfag
open Go.RowKit
set_option linter.unusedVariables false
set_option linter.unusedSimpArgs false

theorem wds_bd {xs : List Int} (h : Wds xs) (i : Nat) : 0 ≤ xs.getD i 0 ∧ xs.getD i 0 < 18446744073709551616 := by have := h i; omega

set_option maxHeartbeats 4000000 in
set_option maxRecDepth 100000 in
theorem double_any (a : Option Addr) (n c : Nat) (ms : List (List Int)) (x : Int) (w : World) (hs : SegsAt w a ms) (hn : ms.length = n) (hn1 : 1 ≤ n) (hn8 : n ≤ 8) (hl : ∀ i, (ms.getD i []).length ≤ 256) (hw : ∀ i, Wds (ms.getD i [])) (hx0 : 0 ≤ x) (hx1 : x < 18446744073709551616) :
    Calls Fagg.prog 70 #[.slice a n c, .int .u64 x] w fun e w' => e = .returned (spRes (doubleOf ms x)) ∧ Below w.heap.size w w' := by
  cases hf : farOf ms x 2 with
  | none =>
    have HTF := hide (fun W (hW : Below w.heap.size w W) => takeFar_any a n c ms x 2 W (hs.below hW) hn hn1 hn8 hl hx0 hx1 (by omega))
    have HF := hide (show doubleOf ms x = none by unfold doubleOf; rw [hf])
    rw [hf] at HTF
    simp only [farV] at HTF
    go_enter Fagg.func70, Fagg.ntmps70
    go_wp2_with (go_at_call 71; with_reducible refine (unhide HTF _ ?_).mono ?_; exact (((Below.refl _ _).alloc (Nat.le_refl _) _).alloc (by simp) _); rintro e w1 ⟨rfl, hw1⟩; subst hw1)
    exact bodyPost_ret (v := spRes none) (by simp [results, Fagg.results70, go_sem, spRes, spP, padV, Sp.nil, Pt.nil]) rfl ⟨by rw [unhide HF], (((Below.refl _ _).alloc (Nat.le_refl _) _).alloc (by simp) _)⟩
  | some r =>
    obtain ⟨t, pad⟩ := r
    obtain ⟨ht, hp⟩ := farOf_facts hf hx0
    obtain ⟨b, off, rfl, hbw, hcell⟩ := hs.get (by omega)
    obtain ⟨b2, o2, c2, h1, h2, h3⟩ := SegsAt.word hcell t ht (by omega)
    exact double_in b off n c t pad (ms.getD t []).length c2 b2 o2 ms x (wordOf ms t pad) (wordOf ms t (pad + 1)) w hs hn hn1 hn8 hl hw hx0 hx1 hf (by omega) (by omega) (hl t) hbw h2 h1 (h3 pad (by omega)) (h3 (pad + 1) (by omega)) (wds_bd (hw t) pad) (wds_bd (hw t) (pad + 1)) (hide (by rw [doubleOf, hf]; rfl))

/-- What the words of a message that fits are. -/
theorem fits_facts {ms : List (List Int)} (h : fitsOf ms = true) : 1 ≤ ms.length ∧ ms.length ≤ 8 ∧ ∀ i, (ms.getD i []).length ≤ 256 := by
  have hf' : 1 ≤ ms.length ∧ ms.length ≤ 8 ∧ 1 ≤ (ms.getD 0 []).length ∧ total ms ≤ 256 := by simpa [fitsOf] using h
  refine ⟨hf'.1, hf'.2.1, fun i => ?_⟩
  by_cases hi : i < ms.length
  · have := total_ge ms i hi; omega
  · have e : ms.getD i [] = [] := by simp [List.getD, Nat.not_lt.1 hi]
    rw [e]; simp

theorem readOf_kind {a : List Int} {w base low : Int} {p : Pt} (h : readOf a w base low = some p) (hw : w ≠ 0) : p.kind ≠ 0 := by
  rw [readOf_nz hw] at h
  unfold readNZ structsOf plainOf at h
  simp only at h
  repeat' split at h
  all_goals first | (cases h; done) | (simp only [Option.some.injEq] at h; subst h; simp)

set_option maxHeartbeats 4000000 in
set_option maxRecDepth 100000 in
theorem resolve_near (b off n c s i L c2 b2 o2 : Nat) (ms : List (List Int)) (x : Int) (w : World) (hs : SegsAt w (some ⟨b, off, none⟩) ms) (hn : ms.length = n) (hf : fitsOf ms = true) (hw : ∀ i, Wds (ms.getD i [])) (hsn : s < n) (hil : i < L) (hLL : (ms.getD s []).length = L) (hbw : b < w.heap.size) (hbw2 : b2 < w.heap.size) (hc1 : w.cell? ⟨b, off + s, none⟩ = some (.slice (some ⟨b2, o2, none⟩) L c2)) (hc2 : w.cell? ⟨b2, o2 + i, none⟩ = some (.int .u64 x)) (hxw : wordOf ms s i = x) (hx : 0 ≤ x ∧ x < 18446744073709551616) (hsl : Sl .u64 w (some ⟨b2, o2, none⟩) (ms.getD s [])) (hr : x % 4 ≠ 2) :
    Calls Fagg.prog 27 #[.slice (some ⟨b, off, none⟩) n c, .int .u8 (s : Int), .int .u16 (i : Int)] w fun e w' => e = .returned (spRes (nearOf ms s i)) ∧ Below w.heap.size w w' := by
  obtain ⟨hn1, hn8, hl⟩ := fits_facts hf
  have hL256 := hl s
  have HFIT := hide (fun W (hW : Below w.heap.size w W) => fits_any (some ⟨b, off, none⟩) n c ms W (hs.below hW) hn)
  rw [hf] at HFIT
  have HT1 := hide (fun W => take_0_2 x W hx.1 hx.2)
  have HT2 := hide (fun W => take_2_1 x W hx.1 hx.2)
  have hwr : IntKind.u16.wrap ((i : Int) + 1) = (i : Int) + 1 := by rw [IntKind.wrap_u16]; omega
  have HRW := hide (fun W (hW : Below w.heap.size w W) => resolveWord_any (some ⟨b2, o2, none⟩) L c2 (ms.getD s []) x ((i : Int) + 1) (lowI s) W (hsl.below hW) hLL (hw s) (by omega) hx.1 hx.2 (by omega) (by unfold lowI; split <;> omega))
  have HLOW := hide (fun W => low_s (s : Int) W (by omega) (by omega))
  have hlo : (if (s : Int) = 0 then (1 : Int) else 0) = lowI s := by unfold lowI; split <;> split <;> omega
  rw [hlo] at HLOW
  have e1 : ¬ (s : Int) ≥ (n : Int) := by omega
  have e2 : ¬ (i : Int) ≥ (L : Int) := by omega
  have hr' : (x % 4 != 2) = true := by simp [hr]
  have hi256 : i < 256 := by omega
  have hs8 : s < 8 := by omega
  have HNR := hide (show nearOf ms s i = match readOf (ms.getD s []) x ((i : Int) + 1) (lowI s) with
    | none => none
    | some p => if x = 0 then some Sp.nil else some ⟨(s : Int), p, 0, 0, 0⟩ by unfold nearOf; rw [hxw]; rfl)
  clear hs hf hw hn hl hsl hlo hr hLL hxw
  cases hrd : readOf (ms.getD s []) x ((i : Int) + 1) (lowI s) with
  | none =>
    rw [hrd] at HRW HNR
    have HF := HNR
    clear HNR hrd
    go_enter Fagg.func27, Fagg.ntmps27
    go_wp2_with (first | (go_at_call 66; with_reducible refine (unhide HFIT _ (((Below.refl _ _).alloc (Nat.le_refl _) _).alloc (by simp) _)).mono ?_; rintro e w1 ⟨rfl, hw1⟩; obtain ⟨hL, hZ⟩ := two_made ((hw1).trans rfl); clear hw1; have HZ := hide hZ; obtain ⟨⟨a0, a1, a2, a3, a4, a5, a6, e0, e1, e2, e3, e4, e5, e6⟩, ⟨z0, z1, z2, y0, y1, y2⟩⟩ := hZ; have d1 := (hL.cell (p := ⟨b, off + s, none⟩) hbw).trans hc1; have d2 := (hL.cell (p := ⟨b2, o2 + i, none⟩) hbw2).trans hc2) | (go_at_call 67; first | (with_reducible refine (unhide HT1 _).mono ?_; rintro e w2 ⟨rfl, hw2⟩; subst hw2) | (with_reducible refine (unhide HT2 _).mono ?_; rintro e w2 ⟨rfl, hw2⟩; subst hw2)))
    refine res_r5 b off n c s i L c2 (some ⟨b2, o2, none⟩) x (lowI s) Pt.nil false _ hsn hs8 hi256 d1 (hide fun W hW => by rw [hwr]; exact unhide HRW W (hL.trans (hW.mono hL.size))) HLOW _ _ _ _ _ _ _ _ _ _ _ _ _ _ _ _ _ _ _ _ _ _ _ _ _ _ _ _ _ _ _ _ _ _ _ _ _ _ _ _ _ _ _ _ _ _ _ _ _ _ _ _ _ _ _ _ _ _ _ _ _ _ _ _ _ _ _ _ _ _ _ _ _ _ _ _ _ _ _ _ _ _ _ _ _ _ _ _ _ _ _ _ _ _ _ _ _ _ _ _ _ _ _ _ _ _ _ _ _ _ _ _ _ _ _ _ _ _ _ _ _ _ _ _ _ _ _ _ _ _ (hide ?_)
    intro v49 v50 v51 v52 v53 v54 v55 v56 v57 v58 v48 v59 v60 G w' hG hpt hb'
    have hb2 := hL.trans (hb'.mono hL.size)
    obtain ⟨hz7, hz3⟩ := unhide HZ
    have hz7' := hz7.below hb'
    have hz3' := hz3.below hb'
    clear HZ a0 a1 a2 a3 a4 a5 a6 e0 e1 e2 e3 e4 e5 e6 z0 z1 z2 y0 y1 y2 d1 d2 hz7 hz3 hb'
    obtain ⟨a0, a1, a2, a3, a4, a5, a6, e0, e1, e2, e3, e4, e5, e6⟩ := hz7'
    obtain ⟨z0, z1, z2, y0, y1, y2⟩ := hz3'
    obtain ⟨p0, p1, p2, p3, p4, p5⟩ := hpt
    go_wp2_with fail
    exact bodyPost_ret (v := spRes none) (by simp [results, Fagg.results27, go_sem, spRes, spP, padV, Sp.nil, Pt.nil, a0, a1, a2, a3, a4, a5, a6, e0, e1, e2, e3, e4, e5, e6, z0, z1, z2, y0, y1, y2]) rfl ⟨by rw [unhide HF], below_set73 hb2 (by omega) (by omega) _ _ _ _ _ _ _ _ _ _⟩
  | some q =>
    rw [hrd] at HRW HNR
    by_cases hx0 : x = 0
    · have hq0 : q = Pt.nil := by
        unfold readOf at hrd
        rw [if_pos hx0] at hrd
        exact (Option.some.inj hrd).symm
      subst hq0
      have HF := hide (show nearOf ms s i = some Sp.nil by rw [unhide HNR]; simp only [hx0, if_true])
      clear HNR hrd hx0
      go_enter Fagg.func27, Fagg.ntmps27
      go_wp2_with (first | (go_at_call 66; with_reducible refine (unhide HFIT _ (((Below.refl _ _).alloc (Nat.le_refl _) _).alloc (by simp) _)).mono ?_; rintro e w1 ⟨rfl, hw1⟩; obtain ⟨hL, hZ⟩ := two_made ((hw1).trans rfl); clear hw1; have HZ := hide hZ; obtain ⟨⟨a0, a1, a2, a3, a4, a5, a6, e0, e1, e2, e3, e4, e5, e6⟩, ⟨z0, z1, z2, y0, y1, y2⟩⟩ := hZ; have d1 := (hL.cell (p := ⟨b, off + s, none⟩) hbw).trans hc1; have d2 := (hL.cell (p := ⟨b2, o2 + i, none⟩) hbw2).trans hc2) | (go_at_call 67; first | (with_reducible refine (unhide HT1 _).mono ?_; rintro e w2 ⟨rfl, hw2⟩; subst hw2) | (with_reducible refine (unhide HT2 _).mono ?_; rintro e w2 ⟨rfl, hw2⟩; subst hw2)))
      refine res_r5 b off n c s i L c2 (some ⟨b2, o2, none⟩) x (lowI s) Pt.nil true _ hsn hs8 hi256 d1 (hide fun W hW => by rw [hwr]; exact unhide HRW W (hL.trans (hW.mono hL.size))) HLOW _ _ _ _ _ _ _ _ _ _ _ _ _ _ _ _ _ _ _ _ _ _ _ _ _ _ _ _ _ _ _ _ _ _ _ _ _ _ _ _ _ _ _ _ _ _ _ _ _ _ _ _ _ _ _ _ _ _ _ _ _ _ _ _ _ _ _ _ _ _ _ _ _ _ _ _ _ _ _ _ _ _ _ _ _ _ _ _ _ _ _ _ _ _ _ _ _ _ _ _ _ _ _ _ _ _ _ _ _ _ _ _ _ _ _ _ _ _ _ _ _ _ _ _ _ _ _ _ _ _ (hide ?_)
      intro v49 v50 v51 v52 v53 v54 v55 v56 v57 v58 v48 v59 v60 G w' hG hpt hb'
      have hb2 := hL.trans (hb'.mono hL.size)
      obtain ⟨hz7, hz3⟩ := unhide HZ
      have hz7' := hz7.below hb'
      have hz3' := hz3.below hb'
      clear HZ a0 a1 a2 a3 a4 a5 a6 e0 e1 e2 e3 e4 e5 e6 z0 z1 z2 y0 y1 y2 d1 d2 hz7 hz3 hb'
      obtain ⟨a0, a1, a2, a3, a4, a5, a6, e0, e1, e2, e3, e4, e5, e6⟩ := hz7'
      obtain ⟨z0, z1, z2, y0, y1, y2⟩ := hz3'
      obtain ⟨p0, p1, p2, p3, p4, p5⟩ := hpt
      go_wp2_with fail
      exact bodyPost_ret (v := spRes (some Sp.nil)) (by simp [results, Fagg.results27, go_sem, spRes, spP, padV, Sp.nil, Pt.nil, a0, a1, a2, a3, a4, a5, a6, e0, e1, e2, e3, e4, e5, e6, z0, z1, z2, y0, y1, y2]) rfl ⟨by rw [unhide HF], below_set73 hb2 (by omega) (by omega) _ _ _ _ _ _ _ _ _ _⟩
    · have hk := readOf_kind hrd hx0
      have hk' : (q.kind == 0) = false := by simp [hk]
      have HF := hide (show nearOf ms s i = some ⟨(s : Int), q, 0, 0, 0⟩ by rw [unhide HNR]; simp only [hx0, if_false])
      clear HNR hrd hx0 hk
      go_enter Fagg.func27, Fagg.ntmps27
      go_wp2_with (first | (go_at_call 66; with_reducible refine (unhide HFIT _ (((Below.refl _ _).alloc (Nat.le_refl _) _).alloc (by simp) _)).mono ?_; rintro e w1 ⟨rfl, hw1⟩; obtain ⟨hL, hZ⟩ := two_made ((hw1).trans rfl); clear hw1; have HZ := hide hZ; obtain ⟨⟨a0, a1, a2, a3, a4, a5, a6, e0, e1, e2, e3, e4, e5, e6⟩, ⟨z0, z1, z2, y0, y1, y2⟩⟩ := hZ; have d1 := (hL.cell (p := ⟨b, off + s, none⟩) hbw).trans hc1; have d2 := (hL.cell (p := ⟨b2, o2 + i, none⟩) hbw2).trans hc2) | (go_at_call 67; first | (with_reducible refine (unhide HT1 _).mono ?_; rintro e w2 ⟨rfl, hw2⟩; subst hw2) | (with_reducible refine (unhide HT2 _).mono ?_; rintro e w2 ⟨rfl, hw2⟩; subst hw2)))
      refine res_r5 b off n c s i L c2 (some ⟨b2, o2, none⟩) x (lowI s) q true _ hsn hs8 hi256 d1 (hide fun W hW => by rw [hwr]; exact unhide HRW W (hL.trans (hW.mono hL.size))) HLOW _ _ _ _ _ _ _ _ _ _ _ _ _ _ _ _ _ _ _ _ _ _ _ _ _ _ _ _ _ _ _ _ _ _ _ _ _ _ _ _ _ _ _ _ _ _ _ _ _ _ _ _ _ _ _ _ _ _ _ _ _ _ _ _ _ _ _ _ _ _ _ _ _ _ _ _ _ _ _ _ _ _ _ _ _ _ _ _ _ _ _ _ _ _ _ _ _ _ _ _ _ _ _ _ _ _ _ _ _ _ _ _ _ _ _ _ _ _ _ _ _ _ _ _ _ _ _ _ _ _ (hide ?_)
      intro v49 v50 v51 v52 v53 v54 v55 v56 v57 v58 v48 v59 v60 G w' hG hpt hb'
      have hb2 := hL.trans (hb'.mono hL.size)
      obtain ⟨hz7, hz3⟩ := unhide HZ
      have hz7' := hz7.below hb'
      have hz3' := hz3.below hb'
      clear HZ a0 a1 a2 a3 a4 a5 a6 e0 e1 e2 e3 e4 e5 e6 z0 z1 z2 y0 y1 y2 d1 d2 hz7 hz3 hb'
      obtain ⟨a0, a1, a2, a3, a4, a5, a6, e0, e1, e2, e3, e4, e5, e6⟩ := hz7'
      obtain ⟨z0, z1, z2, y0, y1, y2⟩ := hz3'
      obtain ⟨p0, p1, p2, p3, p4, p5⟩ := hpt
      go_wp2_with fail
      exact bodyPost_ret (v := spRes (some ⟨(s : Int), q, 0, 0, 0⟩)) (by simp [results, Fagg.results27, go_sem, spRes, spP, padV, Sp.nil, Pt.nil, a0, a1, a2, a3, a4, a5, a6, e0, e1, e2, e3, e4, e5, e6, z0, z1, z2, y0, y1, y2]) rfl ⟨by rw [unhide HF], below_set73 hb2 (by omega) (by omega) _ _ _ _ _ _ _ _ _ _⟩
end Go.Proofs.Ygcfag
