/-
  PLAIN: words that no interval has taken; what Resolve gives lies in the message.
-/
import Derived.Test.YgcfagPlain17
namespace Go.Proofs.Ygcfag
set_option linter.unusedVariables false
set_option linter.unusedSimpArgs false

def covB (L : List (Nat × Nat × Nat)) (s i : Nat) : Bool := L.any fun o => o.1 == s && (decide (o.2.1 ≤ i) && decide (i < o.2.2))

def freeS (L : List (Nat × Nat × Nat)) (s n : Nat) : Nat := (List.range n).countP fun i => !covB L s i

def freeN (ms : List (List Int)) (L : List (Nat × Nat × Nat)) : Nat := ((List.range ms.length).map fun s => freeS L s (ms.getD s []).length).sum

theorem covB_append (L J : List (Nat × Nat × Nat)) (s i : Nat) : covB (L ++ J) s i = (covB L s i || covB J s i) := by simp [covB]

theorem apart_cov {L : List (Nat × Nat × Nat)} {s a n : Nat} (h : apartB L s a n = true) (i : Nat) (h1 : a ≤ i) (h2 : i < a + n) : covB L s i = false := by
  unfold apartB at h
  rw [List.all_eq_true] at h
  unfold covB
  rw [List.any_eq_false]
  intro o ho
  have := h o ho
  simp [meetB] at this ⊢
  intro h3 h4
  omega

theorem freeS_le (L J : List (Nat × Nat × Nat)) (s : Nat) : ∀ n, freeS (L ++ J) s n ≤ freeS L s n
  | 0 => by simp [freeS]
  | n + 1 => by
    have ih := freeS_le L J s n
    unfold freeS at *
    rw [List.range_succ, List.countP_append, List.countP_append, List.countP_singleton, List.countP_singleton, covB_append]
    cases covB L s n <;> cases covB J s n <;> simp <;> omega

theorem freeS_add {L : List (Nat × Nat × Nat)} {s a n : Nat} (h : apartB L s a n = true) : ∀ m, freeS (L ++ [(s, a, a + n)]) s m + (min m (a + n) - min m a) ≤ freeS L s m
  | 0 => by simp [freeS]
  | m + 1 => by
    have ih := freeS_add h m
    unfold freeS at *
    rw [List.range_succ, List.countP_append, List.countP_append, List.countP_singleton, List.countP_singleton, covB_append]
    have hc : covB [(s, a, a + n)] s m = (decide (a ≤ m) && decide (m < a + n)) := by simp [covB]
    rw [hc]
    by_cases h1 : a ≤ m ∧ m < a + n
    · rw [apart_cov h m h1.1 h1.2]
      simp [h1.1, h1.2] at ih ⊢
      omega
    · have : (decide (a ≤ m) && decide (m < a + n)) = false := by simp; omega
      rw [this, Bool.or_false]
      have : min (m + 1) (a + n) - min (m + 1) a ≤ min m (a + n) - min m a := by omega
      omega

theorem sum_step (f g : Nat → Nat) (s n : Nat) (hle : ∀ k, f k ≤ g k) (hs : f s + n ≤ g s) : ∀ m, ((List.range m).map f).sum + (if s < m then n else 0) ≤ ((List.range m).map g).sum
  | 0 => by simp
  | m + 1 => by
    have ih := sum_step f g s n hle hs m
    rw [List.range_succ, List.map_append, List.map_append, List.sum_append, List.sum_append]
    simp only [List.map_cons, List.map_nil, List.sum_cons, List.sum_nil, Nat.add_zero]
    have h1 := hle m
    by_cases e : s = m
    · subst e
      rw [if_pos (by omega)]
      rw [if_neg (by omega)] at ih
      omega
    · by_cases h2 : s < m
      · rw [if_pos (by omega)]; rw [if_pos h2] at ih; omega
      · rw [if_neg (by omega)]; rw [if_neg h2] at ih; omega

theorem freeN_add {ms : List (List Int)} {L : List (Nat × Nat × Nat)} {s a n : Nat} (h : apartB L s a n = true) (hs : s < ms.length) (hin : a + n ≤ (ms.getD s []).length) : freeN ms (L ++ [(s, a, a + n)]) + n ≤ freeN ms L := by
  have h1 := freeS_add h (ms.getD s []).length
  have h2 := sum_step (fun k => freeS (L ++ [(s, a, a + n)]) k (ms.getD k []).length) (fun k => freeS L k (ms.getD k []).length) s n (fun k => freeS_le _ _ _ _) (by
    have : min (ms.getD s []).length (a + n) - min (ms.getD s []).length a = n := by omega
    show freeS (L ++ [(s, a, a + n)]) s (ms.getD s []).length + n ≤ freeS L s (ms.getD s []).length
    omega) ms.length
  rw [if_pos hs] at h2
  exact h2

theorem freeN_gather {ms : List (List Int)} {L : List (Nat × Nat × Nat)} {s a n : Nat} (h : gatherB L s a n = true) (hs : s < ms.length) (hin : a + n ≤ (ms.getD s []).length) : freeN ms (L ++ ivs s a n) + n ≤ freeN ms L := by
  unfold ivs
  by_cases h0 : n = 0
  · simp [h0]
  · rw [if_neg h0]
    exact freeN_add (by simpa [gatherB, h0] using h) hs hin

theorem ivs_len (s a n : Nat) : (ivs s a n).length ≤ n := by unfold ivs; split <;> simp <;> omega

/-- What Resolve gives lies in the message. -/
structure InM (ms : List (List Int)) (p : Sp) : Prop where
  good : GoodPt p.pt
  seg0 : 0 ≤ p.seg
  seg : p.seg.toNat < ms.length
  first : 0 ≤ firstOf p.pt
  fit : firstOf p.pt + wordsOf p.pt ≤ ((ms.getD p.seg.toNat []).length : Int)
  pseg0 : 0 ≤ p.pseg
  pseg : p.pseg.toNat < ms.length
  pat0 : 0 ≤ p.pat
  pw0 : 0 ≤ p.pwords
  pw2 : p.pwords ≤ 2
  pfit : p.pat + p.pwords ≤ ((ms.getD p.pseg.toNat []).length : Int)

theorem resolve_inM {ms : List (List Int)} {s i : Nat} {p : Sp} (h : resolveB ms s i = some p) (hk : p.pt.kind ≠ 0) (hw : ∀ i, Wds (ms.getD i [])) : InM ms p := by
  unfold resolveB at h
  split at h
  case isFalse => cases h
  rename_i hin
  obtain ⟨hf, hs, hi⟩ := hin
  obtain ⟨hn1, hn8, hl⟩ := fits_facts hf
  have hax : ∀ t i, 0 ≤ (ms.getD t []).getD i 0 := fun t i => (wds_bd (hw t) i).1
  have hlow : ∀ t, 0 ≤ lowI t := fun t => by unfold lowI; split <;> omega
  have hx := hax s i
  unfold resolveOf at h
  split at h
  · unfold nearOf at h
    cases hr : readOf (ms.getD s []) (wordOf ms s i) ((i : Int) + 1) (lowI s) with
    | none => rw [hr] at h; cases h
    | some q =>
      rw [hr] at h
      simp only at h
      split at h
      · obtain rfl := Option.some.inj h; exact absurd rfl hk
      · rename_i h0
        obtain rfl := Option.some.inj h
        obtain ⟨g1, g2, g3⟩ := readOf_good hr h0 (hl s) (hlow s) hx (hax s)
        exact ⟨g1, by simp, by simpa using hs, g2, by simpa using g3, by simp, by simp; omega, by simp, by simp, by simp, by simp⟩
  · split at h
    · unfold doubleOf at h
      cases hfo : farOf ms (wordOf ms s i) 2 with
      | none => rw [hfo] at h; cases h
      | some r =>
        obtain ⟨t, pad⟩ := r
        obtain ⟨ht, hp⟩ := farOf_facts hfo hx
        rw [hfo] at h
        simp only at h
        split at h
        · cases h
        · rename_i hc
          cases hfo2 : farOf ms (wordOf ms t pad) 0 with
          | none => rw [hfo2] at h; cases h
          | some r2 =>
            obtain ⟨o, f⟩ := r2
            obtain ⟨ho, hp2⟩ := farOf_facts hfo2 (hax t pad)
            rw [hfo2] at h
            simp only at h
            cases hr : readOf (ms.getD o []) (wordOf ms t (pad + 1)) (f : Int) (lowI o) with
            | none => rw [hr] at h; cases h
            | some q =>
              rw [hr] at h
              obtain rfl := Option.some.inj h
              obtain ⟨g1, g2, g3⟩ := readOf_good hr (fun e => hc (.inr (.inl e))) (hl o) (hlow o) (hax t (pad + 1)) (hax o)
              exact ⟨g1, by simp, by simpa using ho, g2, by simpa using g3, by simp, by simpa using ht, by simp, by simp, by simp, by simpa using hp⟩
    · unfold singleOf at h
      cases hfo : farOf ms (wordOf ms s i) 1 with
      | none => rw [hfo] at h; cases h
      | some r =>
        obtain ⟨t, pad⟩ := r
        obtain ⟨ht, hp⟩ := farOf_facts hfo hx
        rw [hfo] at h
        simp only at h
        split at h
        · cases h
        · rename_i hc
          cases hr : readOf (ms.getD t []) (wordOf ms t pad) ((pad : Int) + 1) (lowI t) with
          | none => rw [hr] at h; cases h
          | some q =>
            rw [hr] at h
            obtain rfl := Option.some.inj h
            obtain ⟨g1, g2, g3⟩ := readOf_good hr hc (hl t) (hlow t) (hax t pad) (hax t)
            exact ⟨g1, by simp, by simpa using ht, g2, by simpa using g3, by simp, by simpa using ht, by simp, by simp, by simp, by simpa using hp⟩
end Go.Proofs.Ygcfag
