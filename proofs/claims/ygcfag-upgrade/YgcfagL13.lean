/-
  THE LAW SegFrameCodes, WALKED.
-/
import Derived.Test.YgcfagW8
import Derived.Test.YgcfagW9
import Derived.Test.YgcfagW10
namespace Go.Proofs.Ygcfag
open Go.RowKit
set_option linter.unusedVariables false
set_option linter.unusedSimpArgs false

theorem openRest_zero {xs : List Int} {fl wd : Int} {ms : List (List Int)} (h : openRest xs fl wd = (0, ms)) : ms ≠ [] := by
  unfold openRest at h
  split at h
  · simp at h
  · rename_i l n ht
    split at h
    · simp at h
    · split at h
      · simp at h
        subst h
        have hf := tableOf_facts ht
        intro e
        have := congrArg List.length e
        rw [cuts_length] at this
        simp at this
        rcases this with h1 | h1
        · omega
        · rw [h1] at hf; simp at hf
      · simp at h

theorem openOf_zero {xs : List Int} {ms : List (List Int)} (h : openOf xs = (0, ms)) : ms ≠ [] := by
  unfold openOf at h
  repeat' split at h
  all_goals first | (simp at h; done) | exact openRest_zero h

theorem SegsAt.below {w w' : World} {a : Option Addr} {ms : List (List Int)} (h : SegsAt w a ms) (hb : Below w.heap.size w w') : SegsAt w' a ms := by
  rcases h with rfl | ⟨b, off, rfl, hc⟩
  · exact .inl rfl
  · refine .inr ⟨b, off, rfl, fun i hi => ?_⟩
    obtain ⟨ai, ci, h1, h2, h3⟩ := hc i hi
    exact ⟨ai, ci, (hb.cell (p := ⟨b, off + i, none⟩) (World.block_lt_of_cell? w _ h1)).trans h1, h2, h3.below hb⟩

theorem getD_len_le (ms : List (List Int)) (B : Nat) (h : ∀ x ∈ ms, x.length ≤ B) (i : Nat) : (ms.getD i []).length ≤ B := by
  rw [List.getD_eq_getElem?_getD]
  cases hi : ms[i]? with
  | none => simp
  | some x => simpa using h x (List.mem_of_getElem? hi)

theorem cuts_mem_len : ∀ (l : List Nat) (xs : List Int) (x : List Int), x ∈ cuts l xs → x.length ≤ xs.length
  | [], _, x, h => by simp [cuts] at h
  | k :: ks, xs, x, h => by
    simp only [cuts, List.mem_cons] at h
    rcases h with rfl | h
    · simp; omega
    · have := cuts_mem_len ks (xs.drop k) x h
      simp at this
      omega

theorem openRest_len' {xs : List Int} {fl wd : Int} {ms : List (List Int)} (h : openRest xs fl wd = (0, ms)) (hwd : wd ≤ 256) : ms.length ≤ 8 ∧ ∀ i, (ms.getD i []).length ≤ 256 := by
  unfold openRest at h
  split at h
  · simp at h
  · rename_i l n ht
    split at h
    · simp at h
    · rename_i all hp
      split at h
      · rename_i hl
        simp at h
        subst h
        have hf := tableOf_facts ht
        refine ⟨by rw [cuts_length]; simp; omega, getD_len_le _ 256 fun x hx => ?_⟩
        have := cuts_mem_len _ _ x hx
        omega
      · simp at h

theorem openOf_len {xs : List Int} {ms : List (List Int)} (h : openOf xs = (0, ms)) : ms.length ≤ 8 ∧ ∀ i, (ms.getD i []).length ≤ 256 := by
  unfold openOf at h
  repeat' split at h
  all_goals first | (simp at h; done) | exact openRest_len' h (by omega)

set_option maxHeartbeats 1000000 in
set_option maxRecDepth 100000 in
theorem segFrameCodes_any (a : Option Addr) (n m c : Nat) (xs : List Int) (w : World) (hs : Sl .u8 w a xs) (hn : xs.length = m) (hm1 : m = min n 4129) (hnc : n ≤ c) (hm : c ≤ 9223372036854775807) (hx : Bys xs) :
    Calls Fagg.prog 13 #[.slice a n c] w fun e w' => e = .returned (.bool true) ∧ Below w.heap.size w w' := by
  have HOPEN := hide (open_any a m c xs w hs hn (by omega) hm hx)
  have HOWN := hide (fun W (hW : Below w.heap.size w W) => own_any a m c xs W (hs.below hW) hn (by omega) (by omega) hm hx)
  have HM1 := hide hm1
  have hcm : (m : Int) ≤ (c : Int) := by omega
  have hc0 : ¬ (c = 0 ∧ 0 < m) := by omega
  by_cases hlt : 4129 < n
  · have hlt' : (4129 : Int) < (n : Int) := by omega
    obtain rfl : m = 4129 := by omega
    have hc' : (4129 : Int) ≤ (c : Int) := by omega
    have hcc : ¬ c = 0 := by omega
    clear hm1
    go_enter Fagg.func13, Fagg.ntmps13
    go_wp2_with fail
    · skip
      refine (unhide HOPEN).mono ?_
      rintro e w1 ⟨hb1, h⟩
      rcases h with ⟨h2, rfl⟩ | ⟨x1, k1, c1, ms, ho, hk, rfl, hseg⟩
      · have hne : (openOf xs).1 ≠ 0 := fun e0 => openOf_zero (xs := xs) (ms := []) (by rw [← e0, ← h2]) rfl
        generalize hC : (openOf xs).1 = C at *
        have HH := hide (And.intro h2 hC)
        have e1 : ((C : Int) == (C : Int)) = true := by simp
        have e2 : ((C : Int) == 0) = false := by simp; omega
        clear h2 hC hne
        go_wp2_with fail
        refine (unhide HOWN w1 hb1).mono ?_
        rintro e w2 ⟨hb2, h⟩
        have hb12 := hb1.trans (hb2.mono hb1.size)
        rcases h with ⟨h3, rfl⟩ | ⟨x2, k2, c2, ms2, ho2, _⟩
        · have HSS := hide (sameSegs_same none none 0 0 0 [] w2 (.inl rfl) (.inl rfl) rfl (by omega) (by simp))
          clear h3
          go_wp2_with fail
          refine (unhide HSS).mono ?_
          rintro e w3 ⟨rfl, hb3⟩
          go_wp2
          go_ret
          exact ⟨rfl, hb12.trans (hb3.mono hb12.size)⟩
        · exact absurd (by have := (unhide HH).1; rw [ho2] at this; exact this) (openOf_zero ho2)
      · have HH := hide ho
        have HSEG := hide hseg
        clear ho hseg
        go_wp2_with fail
        refine (unhide HOWN w1 hb1).mono ?_
        rintro e w2 ⟨hb2, h⟩
        have hb12 := hb1.trans (hb2.mono hb1.size)
        rcases h with ⟨h3, rfl⟩ | ⟨x2, k2, c2, ms2, ho2, hk2, rfl, hseg2⟩
        · exact absurd (by rw [unhide HH] at h3; exact h3) (openOf_zero (unhide HH))
        · have hms : ms2 = ms := by have := (unhide HH); rw [ho2] at this; simpa using this
          subst hms
          have hbd := openOf_len (unhide HH)
          obtain rfl : k1 = k2 := by omega
          have HSS := hide (sameSegs_same (some x1) (some x2) k1 c1 c2 ms2 w2 ((unhide HSEG).below hb2) hseg2 hk2 (by have := hbd.1; omega) (fun i => by have := hbd.2 i; omega))
          clear ho2 hk hk2 hseg2 hbd
          go_wp2_with fail
          refine (unhide HSS).mono ?_
          rintro e w3 ⟨rfl, hb3⟩
          go_wp2
          go_ret
          exact ⟨rfl, hb12.trans (hb3.mono hb12.size)⟩
  · have hlt' : ¬ (4129 : Int) < (n : Int) := by omega
    obtain rfl : m = n := by omega
    clear hm1
    go_enter Fagg.func13, Fagg.ntmps13
    go_wp2_with fail
    · skip
      refine (unhide HOPEN).mono ?_
      rintro e w1 ⟨hb1, h⟩
      rcases h with ⟨h2, rfl⟩ | ⟨x1, k1, c1, ms, ho, hk, rfl, hseg⟩
      · have hne : (openOf xs).1 ≠ 0 := fun e0 => openOf_zero (xs := xs) (ms := []) (by rw [← e0, ← h2]) rfl
        generalize hC : (openOf xs).1 = C at *
        have HH := hide (And.intro h2 hC)
        have e1 : ((C : Int) == (C : Int)) = true := by simp
        have e2 : ((C : Int) == 0) = false := by simp; omega
        clear h2 hC hne
        go_wp2_with fail
        refine (unhide HOWN w1 hb1).mono ?_
        rintro e w2 ⟨hb2, h⟩
        have hb12 := hb1.trans (hb2.mono hb1.size)
        rcases h with ⟨h3, rfl⟩ | ⟨x2, k2, c2, ms2, ho2, _⟩
        · have HSS := hide (sameSegs_same none none 0 0 0 [] w2 (.inl rfl) (.inl rfl) rfl (by omega) (by simp))
          clear h3
          go_wp2_with fail
          refine (unhide HSS).mono ?_
          rintro e w3 ⟨rfl, hb3⟩
          go_wp2
          go_ret
          exact ⟨rfl, hb12.trans (hb3.mono hb12.size)⟩
        · exact absurd (by have := (unhide HH).1; rw [ho2] at this; exact this) (openOf_zero ho2)
      · have HH := hide ho
        have HSEG := hide hseg
        clear ho hseg
        go_wp2_with fail
        refine (unhide HOWN w1 hb1).mono ?_
        rintro e w2 ⟨hb2, h⟩
        have hb12 := hb1.trans (hb2.mono hb1.size)
        rcases h with ⟨h3, rfl⟩ | ⟨x2, k2, c2, ms2, ho2, hk2, rfl, hseg2⟩
        · exact absurd (by rw [unhide HH] at h3; exact h3) (openOf_zero (unhide HH))
        · have hms : ms2 = ms := by have := (unhide HH); rw [ho2] at this; simpa using this
          subst hms
          have hbd := openOf_len (unhide HH)
          obtain rfl : k1 = k2 := by omega
          have HSS := hide (sameSegs_same (some x1) (some x2) k1 c1 c2 ms2 w2 ((unhide HSEG).below hb2) hseg2 hk2 (by have := hbd.1; omega) (fun i => by have := hbd.2 i; omega))
          clear ho2 hk hk2 hseg2 hbd
          go_wp2_with fail
          refine (unhide HSS).mono ?_
          rintro e w3 ⟨rfl, hb3⟩
          go_wp2
          go_ret
          exact ⟨rfl, hb12.trans (hb3.mono hb12.size)⟩
end Go.Proofs.Ygcfag
