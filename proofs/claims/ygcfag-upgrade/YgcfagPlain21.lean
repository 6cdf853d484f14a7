/-
  PLAIN: the layout's places lie apart; what is filled in is read back.
-/
import Derived.Test.YgcfagW122
namespace Go.Proofs.Ygcfag
open Go.RowKit
set_option linter.unusedVariables false
set_option linter.unusedSimpArgs false

def usedBit (us : List Nat) (b : Nat) : Bool := (us.getD (b / 64) 0).testBit (b % 64)
def InP (p : Nat × Nat) (b : Nat) : Prop := p.2 * 2 ^ p.1 ≤ b ∧ b < p.2 * 2 ^ p.1 + 2 ^ p.1
instance (p : Nat × Nat) (b : Nat) : Decidable (InP p b) := by unfold InP; infer_instance
def Apart (p q : Nat × Nat) : Prop := ∀ b, InP p b → ¬ InP q b
theorem Apart.symm {p q : Nat × Nat} (h : Apart p q) : Apart q p := fun b h1 h2 => h b h2 h1

/-- A place lies within one word. -/
theorem inP_word {p : Nat × Nat} (hp : ShOK p.1) {b : Nat} (h : InP p b) : b / 64 = p.2 * 2 ^ p.1 / 64 ∧ p.2 * 2 ^ p.1 % 64 ≤ b % 64 ∧ b % 64 < p.2 * 2 ^ p.1 % 64 + 2 ^ p.1 ∧ b % 64 - p.2 * 2 ^ p.1 % 64 = b - p.2 * 2 ^ p.1 := by
  have h1 := off_le (i := p.2) hp
  obtain ⟨h2, h3⟩ := h
  omega
theorem word_inP {p : Nat × Nat} {b : Nat} (h1 : b / 64 = p.2 * 2 ^ p.1 / 64) (h2 : p.2 * 2 ^ p.1 % 64 ≤ b % 64) (h3 : b % 64 < p.2 * 2 ^ p.1 % 64 + 2 ^ p.1) : InP p b := by
  unfold InP; omega

theorem fitB_bits {us : List Nat} {sh i b : Nat} (h : fitB us sh i = true) (hsh : ShOK sh) (hb : InP (sh, i) b) : usedBit us b = false := by
  obtain ⟨e1, e2, e3, e4⟩ := inP_word (p := (sh, i)) hsh hb
  simp only at e1 e2 e3 e4
  unfold fitB at h
  have h0 := of_decide_eq_true h
  unfold usedBit
  rw [e1]
  generalize us.getD (i * 2 ^ sh / 64) 0 = x at *
  have h1 : (x / 2 ^ (i * 2 ^ sh % 64) % 2 ^ (2 ^ sh)).testBit (b % 64 - i * 2 ^ sh % 64) = false := by rw [h0]; simp
  rw [Nat.testBit_mod_two_pow, Nat.testBit_div_two_pow] at h1
  have h2 : b % 64 - i * 2 ^ sh % 64 < 2 ^ sh := by omega
  simp only [h2, decide_true, Bool.true_and] at h1
  rwa [show b % 64 - i * 2 ^ sh % 64 + i * 2 ^ sh % 64 = b % 64 by omega] at h1

theorem markN_bit {us : List Nat} {sh i b : Nat} (hsh : ShOK sh) (hi : i * 2 ^ sh / 64 < us.length) : usedBit (markN us sh i) b = (usedBit us b || decide (InP (sh, i) b)) := by
  unfold usedBit markN
  by_cases hw : b / 64 = i * 2 ^ sh / 64
  · rw [hw, List.getD_eq_getElem?_getD, List.getElem?_set_self hi]
    simp only [Option.getD_some]
    rw [Nat.testBit_or]
    congr 1
    rw [← Nat.shiftLeft_eq, Nat.testBit_shiftLeft, Nat.testBit_two_pow_sub_one]
    by_cases h1 : i * 2 ^ sh % 64 ≤ b % 64
    · by_cases h2 : b % 64 < i * 2 ^ sh % 64 + 2 ^ sh
      · have h3 : b % 64 - i * 2 ^ sh % 64 < 2 ^ sh := by omega
        have h4 : InP (sh, i) b := word_inP hw h1 h2
        simp [h1, h3, h4]
      · have h3 : ¬ b % 64 - i * 2 ^ sh % 64 < 2 ^ sh := by omega
        have h4 : ¬ InP (sh, i) b := fun h => h2 (inP_word (p := (sh, i)) hsh h).2.2.1
        simp [h3, h4]
    · have h4 : ¬ InP (sh, i) b := fun h => h1 (inP_word (p := (sh, i)) hsh h).2.1
      simp [h1, h4]
  · have h4 : ¬ InP (sh, i) b := fun h => hw (inP_word (p := (sh, i)) hsh h).1
    rw [List.getD_eq_getElem?_getD, List.getElem?_set_ne (fun e => hw e.symm), ← List.getD_eq_getElem?_getD]
    simp [h4]

/-- What holds of a layout. -/
structure LayOK (s : LSt) : Prop where
  ul : s.2.2.length = 8
  d8 : s.2.1 ≤ 8
  ok : ∀ p ∈ s.1, ShOK p.1 ∧ p.2 * 2 ^ p.1 + 2 ^ p.1 ≤ 64 * s.2.1
  set : ∀ p ∈ s.1, ∀ b, InP p b → usedBit s.2.2 b = true
  clr : ∀ b, 64 * s.2.1 ≤ b → usedBit s.2.2 b = false
  ap : s.1.Pairwise Apart

theorem LayOK.next {ps : List (Nat × Nat)} {d : Nat} {us : List Nat} (h : LayOK (ps, d, us)) {sh i d' : Nat} (hsh : ShOK sh) (hd : d ≤ d') (hd8 : d' ≤ 8) (hi : i * 2 ^ sh + 2 ^ sh ≤ 64 * d') (hf : ∀ b, InP (sh, i) b → usedBit us b = false) : LayOK (ps ++ [(sh, i)], d', markN us sh i) := by
  have h2 : 0 < 2 ^ sh := Nat.two_pow_pos sh
  have hlen : us.length = 8 := h.ul
  have hix : i * 2 ^ sh / 64 < us.length := by omega
  refine ⟨by simp only [markN, List.length_set]; exact hlen, hd8, ?_, ?_, ?_, ?_⟩
  · intro p hp
    rcases List.mem_append.1 hp with h1 | h1
    · have h3 := h.ok p h1
      simp only at h3
      refine ⟨h3.1, ?_⟩
      show _ ≤ 64 * d'
      omega
    · rw [List.mem_singleton] at h1
      subst h1
      exact ⟨hsh, hi⟩
  · intro p hp b hb
    show usedBit (markN us sh i) b = true
    rw [markN_bit hsh hix]
    rcases List.mem_append.1 hp with h1 | h1
    · have := h.set p h1 b hb
      simp only at this
      simp [this]
    · rw [List.mem_singleton] at h1
      subst h1
      simp [hb]
  · intro b hb
    show usedBit (markN us sh i) b = false
    have hb' : 64 * d' ≤ b := hb
    rw [markN_bit hsh hix]
    have h3 : usedBit us b = false := h.clr b (show 64 * d ≤ b by omega)
    have h4 : ¬ InP (sh, i) b := fun h5 => by unfold InP at h5; simp only at h5; omega
    simp [h3, h4]
  · rw [List.pairwise_append]
    refine ⟨h.ap, List.pairwise_singleton _ _, ?_⟩
    intro p hp q hq
    rw [List.mem_singleton] at hq
    subst hq
    intro b hb hb2
    have h3 : usedBit us b = true := h.set p hp b hb
    rw [hf b hb2] at h3
    cases h3

theorem layOK_step {s s' : LSt} {k : Nat} (h : LayOK s) (hs : layStep s k = some s') : LayOK s' ∧ (∃ q, s'.1 = s.1 ++ [q]) ∧ s.2.1 ≤ s'.2.1 := by
  obtain ⟨ps, d, us⟩ := s
  unfold layStep at hs
  have hsh := shOf_ok k
  have h2 : 0 < 2 ^ shOf k := Nat.two_pow_pos _
  have hd8 : d ≤ 8 := h.d8
  split at hs
  · rename_i i hfit
    have hfit : fitN us d (shOf k) = some i := hfit
    obtain ⟨h1, h3⟩ := fitN_lt hfit hsh
    have := Option.some.inj hs
    subst this
    exact ⟨h.next hsh (Nat.le_refl _) hd8 h1 (fun b hb => fitB_bits h3 hsh hb), ⟨_, rfl⟩, Nat.le_refl _⟩
  · split at hs
    · cases hs
    · rename_i hd
      have hd : ¬ d = 8 := hd
      have := Option.some.inj hs
      subst this
      have hpp := pp_eq (d := d) hsh
      have hof := off_le (i := d * (64 / 2 ^ shOf k)) hsh
      refine ⟨h.next hsh (show d ≤ d + 1 by omega) (show d + 1 ≤ 8 by omega) (show d * (64 / 2 ^ shOf k) * 2 ^ shOf k + 2 ^ shOf k ≤ 64 * (d + 1) by omega) ?_, ⟨_, rfl⟩, show d ≤ d + 1 by omega⟩
      intro b hb
      refine h.clr b ?_
      unfold InP at hb
      simp only at hb
      show 64 * d ≤ b
      omega

theorem layFrom_ok : ∀ (ks : List Nat) (s s' : LSt), LayOK s → layFrom s ks = some s' → LayOK s' ∧ s'.1.length = s.1.length + ks.length ∧ (∃ r, s'.1 = s.1 ++ r) ∧ s.2.1 ≤ s'.2.1
  | [], s, s', h, hs => by
    have := Option.some.inj hs
    subst this
    exact ⟨h, by simp, ⟨[], by simp⟩, Nat.le_refl _⟩
  | k :: ks, s, s', h, hs => by
    unfold layFrom at hs
    split at hs
    · cases hs
    · rename_i s1 h1
      obtain ⟨a1, ⟨q, a2⟩, a3⟩ := layOK_step h h1
      obtain ⟨b1, b2, ⟨r, b3⟩, b4⟩ := layFrom_ok ks s1 s' a1 hs
      refine ⟨b1, ?_, ⟨q :: r, ?_⟩, Nat.le_trans a3 b4⟩
      · rw [b2, a2]; simp; omega
      · rw [b3, a2]; simp

theorem layFrom_cons (s : LSt) (k : Nat) (ks : List Nat) : layFrom s (k :: ks) = match layStep s k with | none => none | some s' => layFrom s' ks := rfl
theorem layFrom_append : ∀ (ks ls : List Nat) (s : LSt), layFrom s (ks ++ ls) = (layFrom s ks).bind (fun s' => layFrom s' ls)
  | [], ls, s => rfl
  | k :: ks, ls, s => by
    rw [List.cons_append, layFrom_cons, layFrom_cons]
    cases layStep s k with
    | none => rfl
    | some s1 => exact layFrom_append ks ls s1

theorem lay0_ok : LayOK ([], 0, List.replicate 8 0) := by
  refine ⟨rfl, Nat.zero_le _, by simp, by simp, ?_, List.Pairwise.nil⟩
  intro b _
  unfold usedBit
  rw [List.getD_eq_getElem?_getD, List.getElem?_replicate]
  split <;> simp

/-- The layout of a beginning. -/
theorem layN_take {ks : List Nat} {s : LSt} (h : layN ks = some s) (n : Nat) (hn : n ≤ ks.length) : ∃ s', layN (ks.take n) = some s' ∧ LayOK s ∧ LayOK s' ∧ s'.1 = s.1.take n ∧ s.1.length = ks.length ∧ s'.1.length = n ∧ s'.2.1 ≤ s.2.1 := by
  unfold layN at h ⊢
  have h0 := layFrom_ok ks _ s lay0_ok h
  rw [← List.take_append_drop n ks, layFrom_append] at h
  cases h1 : layFrom ([], 0, List.replicate 8 0) (ks.take n) with
  | none => rw [h1] at h; cases h
  | some s1 =>
    rw [h1] at h
    have h2 := layFrom_ok _ _ s1 lay0_ok h1
    have h3 := layFrom_ok _ _ s h2.1 h
    obtain ⟨r, hr⟩ := h3.2.2.1
    have hl1 : s1.1.length = n := by rw [h2.2.1]; simp; omega
    refine ⟨s1, rfl, h0.1, h2.1, ?_, by rw [h0.2.1]; simp, hl1, h3.2.2.2⟩
    rw [hr, List.take_left' hl1]

/-! ### What is filled in is read back -/
def arrBit (arr : List Nat) (b : Nat) : Bool := (arr.getD (1 + b / 64) 0).testBit (b % 64)

theorem stepN_len (arr : List Nat) (sh i v : Nat) : (stepN arr sh i v).length = arr.length := by unfold stepN; simp
theorem stepN_bit {arr : List Nat} {sh i v d b : Nat} (hsh : ShOK sh) (hl : arr.length = 1 + d) (hi : i * 2 ^ sh + 2 ^ sh ≤ 64 * d) : arrBit (stepN arr sh i v) b = if InP (sh, i) b then v.testBit (b - i * 2 ^ sh) else arrBit arr b := by
  have h2 : 0 < 2 ^ sh := Nat.two_pow_pos sh
  unfold arrBit stepN
  by_cases hw : b / 64 = i * 2 ^ sh / 64
  · rw [hw, List.getD_eq_getElem?_getD, List.getElem?_set_self (by omega)]
    simp only [Option.getD_some]
    rw [putN_bit _ _ _ _ _ (off_le hsh) (Nat.mod_lt _ (by omega))]
    by_cases hin : InP (sh, i) b
    · obtain ⟨_, e2, e3, e4⟩ := inP_word (p := (sh, i)) hsh hin
      simp only at e2 e3 e4
      rw [if_pos ⟨e2, e3⟩, if_pos hin, e4]
    · rw [if_neg (fun h => hin (word_inP hw h.1 h.2)), if_neg hin]
  · have h4 : ¬ InP (sh, i) b := fun h => hw (inP_word (p := (sh, i)) hsh h).1
    rw [if_neg h4, List.getD_eq_getElem?_getD, List.getElem?_set_ne (by omega), ← List.getD_eq_getElem?_getD]

theorem fillN_len (val : Nat → Nat) : ∀ (ps : List (Nat × Nat)) (arr : List Nat) (j : Nat), (fillN val arr ps j).length = arr.length
  | [], _, _ => rfl
  | p :: ps, arr, j => by unfold fillN; rw [fillN_len val ps, stepN_len]
theorem fillN_head (val : Nat → Nat) : ∀ (ps : List (Nat × Nat)) (arr : List Nat) (j : Nat), (fillN val arr ps j).getD 0 0 = arr.getD 0 0
  | [], _, _ => rfl
  | p :: ps, arr, j => by
    unfold fillN
    rw [fillN_head val ps]
    unfold stepN
    rw [List.getD_eq_getElem?_getD, List.getElem?_set_ne (by omega), ← List.getD_eq_getElem?_getD]
theorem fillN_lt (val : Nat → Nat) : ∀ (ps : List (Nat × Nat)) (arr : List Nat) (j : Nat), (∀ x ∈ arr, x < 18446744073709551616) → ∀ x ∈ fillN val arr ps j, x < 18446744073709551616
  | [], _, _, h => h
  | p :: ps, arr, j, h => by unfold fillN; exact fillN_lt val ps _ _ (stepN_lt h _ _ _)

theorem fillN_far (val : Nat → Nat) {d b : Nat} : ∀ (ps : List (Nat × Nat)) (arr : List Nat) (j : Nat), arr.length = 1 + d → (∀ p ∈ ps, ShOK p.1 ∧ p.2 * 2 ^ p.1 + 2 ^ p.1 ≤ 64 * d) → (∀ p ∈ ps, ¬ InP p b) → arrBit (fillN val arr ps j) b = arrBit arr b
  | [], _, _, _, _, _ => rfl
  | p :: ps, arr, j, hl, hp, hb => by
    unfold fillN
    rw [fillN_far val ps _ _ (by rw [stepN_len]; exact hl) (fun q hq => hp q (List.mem_cons_of_mem _ hq)) (fun q hq => hb q (List.mem_cons_of_mem _ hq))]
    have h1 := hp p (List.mem_cons_self ..)
    rw [stepN_bit h1.1 hl h1.2, if_neg (hb p (List.mem_cons_self ..))]
theorem fillN_own (val : Nat → Nat) {d b : Nat} : ∀ (ps : List (Nat × Nat)) (arr : List Nat) (j t : Nat), arr.length = 1 + d → (∀ p ∈ ps, ShOK p.1 ∧ p.2 * 2 ^ p.1 + 2 ^ p.1 ≤ 64 * d) → ps.Pairwise Apart → t < ps.length → InP (ps.getD t (0, 0)) b → arrBit (fillN val arr ps j) b = (val (j + t)).testBit (b - (ps.getD t (0, 0)).2 * 2 ^ (ps.getD t (0, 0)).1)
  | [], _, _, _, _, _, _, ht, _ => by simp at ht
  | p :: ps, arr, j, t, hl, hp, hap, ht, hb => by
    have h1 := hp p (List.mem_cons_self ..)
    have h2 : ∀ q ∈ ps, ShOK q.1 ∧ q.2 * 2 ^ q.1 + 2 ^ q.1 ≤ 64 * d := fun q hq => hp q (List.mem_cons_of_mem _ hq)
    rw [List.pairwise_cons] at hap
    unfold fillN
    cases t with
    | zero =>
      rw [List.getD_cons_zero] at hb ⊢
      rw [fillN_far val ps _ _ (by rw [stepN_len]; exact hl) h2 (fun q hq => hap.1 q hq b hb), stepN_bit h1.1 hl h1.2, if_pos hb, Nat.add_zero]
    | succ t =>
      rw [List.getD_cons_succ] at hb ⊢
      rw [fillN_own val ps _ (j + 1) t (by rw [stepN_len]; exact hl) h2 hap.2 (by simpa using ht) hb, show j + 1 + t = j + (t + 1) by omega]

theorem arr0_bit (d b : Nat) : arrBit (arr0 d) b = false := by
  unfold arrBit arr0
  rw [Nat.add_comm, List.getD_cons_succ, List.getD_eq_getElem?_getD, List.getElem?_replicate]
  split <;> simp

/-- A field, read as a natural number. -/
def fieldN (arr : List Nat) (d o sh : Nat) : Nat := if d * 64 ≤ o * 2 ^ sh then 0 else arr.getD (1 + o * 2 ^ sh / 64) 0 / 2 ^ (o * 2 ^ sh % 64) % 2 ^ (2 ^ sh)
theorem intsN_getD (arr : List Nat) (i : Nat) : (intsN arr).getD i 0 = ((arr.getD i 0 : Nat) : Int) := by
  unfold intsN
  rw [List.getD_eq_getElem?_getD, List.getElem?_map, List.getD_eq_getElem?_getD]
  cases arr[i]? <;> rfl
theorem fieldOf_nat (arr : List Nat) (d o sh : Nat) : fieldOf (intsN arr) d o sh = ((fieldN arr d o sh : Nat) : Int) := by
  unfold fieldOf fieldN
  rw [intsN_getD]
  split
  · rfl
  · push_cast; rfl
theorem fieldN_bit {arr : List Nat} {d o sh t : Nat} (hsh : ShOK sh) : (fieldN arr d o sh).testBit t = (decide (t < 2 ^ sh) && decide (o * 2 ^ sh < 64 * d) && arrBit arr (o * 2 ^ sh + t)) := by
  unfold fieldN arrBit
  by_cases h1 : d * 64 ≤ o * 2 ^ sh
  · rw [if_pos h1]
    have : ¬ o * 2 ^ sh < 64 * d := by omega
    simp [this]
  · rw [if_neg h1, Nat.testBit_mod_two_pow, Nat.testBit_div_two_pow]
    have h2 : o * 2 ^ sh < 64 * d := by omega
    by_cases ht : t < 2 ^ sh
    · have h3 := off_le (i := o) hsh
      rw [show (o * 2 ^ sh + t) / 64 = o * 2 ^ sh / 64 by omega, show (o * 2 ^ sh + t) % 64 = t + o * 2 ^ sh % 64 by omega]
      simp [ht, h2]
    · simp [ht]

theorem read_own (val : Nat → Nat) {ps : List (Nat × Nat)} {d t : Nat} (hp : ∀ p ∈ ps, ShOK p.1 ∧ p.2 * 2 ^ p.1 + 2 ^ p.1 ≤ 64 * d) (hap : ps.Pairwise Apart) (ht : t < ps.length) :
    fieldN (fillN val (arr0 d) ps 0) d (ps.getD t (0, 0)).2 (ps.getD t (0, 0)).1 = val t % 2 ^ (2 ^ (ps.getD t (0, 0)).1) := by
  have hmem : ps.getD t (0, 0) ∈ ps := by rw [List.getD_eq_getElem?_getD, List.getElem?_eq_getElem ht]; exact List.getElem_mem ht
  have h1 := hp _ hmem
  have h2 : 0 < 2 ^ (ps.getD t (0, 0)).1 := Nat.two_pow_pos _
  apply Nat.eq_of_testBit_eq
  intro r
  rw [fieldN_bit h1.1, Nat.testBit_mod_two_pow]
  by_cases hr : r < 2 ^ (ps.getD t (0, 0)).1
  · have hin : InP (ps.getD t (0, 0)) ((ps.getD t (0, 0)).2 * 2 ^ (ps.getD t (0, 0)).1 + r) := by unfold InP; omega
    rw [fillN_own val ps (arr0 d) 0 t (by simp [arr0]; omega) hp hap ht hin]
    have h3 : (ps.getD t (0, 0)).2 * 2 ^ (ps.getD t (0, 0)).1 < 64 * d := by omega
    rw [Nat.add_sub_cancel_left, Nat.zero_add]
    simp only [hr, h3, decide_true, Bool.true_and]
  · simp only [hr, decide_false, Bool.false_and]

theorem read_far (val : Nat → Nat) {ps : List (Nat × Nat)} {d : Nat} (q : Nat × Nat) (hq : ShOK q.1) (hp : ∀ p ∈ ps, ShOK p.1 ∧ p.2 * 2 ^ p.1 + 2 ^ p.1 ≤ 64 * d) (hap : ∀ p ∈ ps, Apart p q) : fieldN (fillN val (arr0 d) ps 0) d q.2 q.1 = 0 := by
  apply Nat.eq_of_testBit_eq
  intro r
  rw [fieldN_bit hq, Nat.zero_testBit]
  by_cases hr : r < 2 ^ q.1
  · have hin : InP q (q.2 * 2 ^ q.1 + r) := by unfold InP; omega
    rw [fillN_far val ps (arr0 d) 0 (by simp [arr0]; omega) hp (fun p hp2 h => hap p hp2 _ h hin), arr0_bit]
    simp
  · simp [hr]

theorem take_getD {ps : List (Nat × Nat)} {n j : Nat} (h : j < n) : (ps.take n).getD j (0, 0) = ps.getD j (0, 0) := by
  rw [List.getD_eq_getElem?_getD, List.getElem?_take_of_lt h, ← List.getD_eq_getElem?_getD]

/-- THE LAW: what is written under a layout reads the same under it, its beginning, and a beginning's under it. -/
theorem law_long {vs : List Int} (hvs : ∀ x ∈ vs, 0 ≤ x ∧ x < 18446744073709551616) {s : LSt} (h : LayOK s) (n : Nat) (j : Nat) (hj : j < n) (hjl : j < s.1.length) :
    fieldOf (intsN (fillN (fun j => (vs.getD j 0).toNat) (arr0 s.2.1) s.1 0)) s.2.1 (s.1.getD j (0, 0)).2 (s.1.getD j (0, 0)).1 = wantZ vs n j (s.1.getD j (0, 0)).1 := by
  rw [fieldOf_nat, read_own _ h.ok h.ap hjl]
  unfold wantZ
  rw [if_pos hj]
  have hv : 0 ≤ vs.getD j 0 := by
    rw [List.getD_eq_getElem?_getD]
    rcases hg : vs[j]? with _ | y
    · simp
    · exact (hvs y (List.mem_of_getElem? hg)).1
  have e : ((vs.getD j 0).toNat : Int) = vs.getD j 0 := Int.toNat_of_nonneg hv
  rw [Int.natCast_emod, e]
  push_cast; rfl

theorem law_short {vs : List Int} (hvs : ∀ x ∈ vs, 0 ≤ x ∧ x < 18446744073709551616) {s s' : LSt} (h : LayOK s) (h' : LayOK s') (n : Nat) (hs : s'.1 = s.1.take n) (hsl : s'.1.length = n) (j : Nat) (hjl : j < s.1.length) :
    fieldOf (intsN (fillN (fun j => (vs.getD j 0).toNat) (arr0 s'.2.1) s'.1 0)) s'.2.1 (s.1.getD j (0, 0)).2 (s.1.getD j (0, 0)).1 = wantZ vs n j (s.1.getD j (0, 0)).1 := by
  by_cases hj : j < n
  · have := law_long hvs h' n j hj (by omega)
    rwa [show s'.1.getD j (0, 0) = s.1.getD j (0, 0) by rw [hs]; exact take_getD hj] at this
  · rw [fieldOf_nat]
    have hmem : s.1.getD j (0, 0) ∈ s.1 := by rw [List.getD_eq_getElem?_getD, List.getElem?_eq_getElem hjl]; exact List.getElem_mem hjl
    rw [read_far _ _ (h.ok _ hmem).1 h'.ok ?_]
    · unfold wantZ; rw [if_neg hj]; rfl
    · intro p hp
      rw [hs] at hp
      obtain ⟨i, hi, hpi⟩ := List.getElem_of_mem hp
      rw [List.length_take] at hi
      have h1 : p = s.1[i]'(by omega) := by rw [← hpi, List.getElem_take]
      have h2 : s.1.getD j (0, 0) = s.1[j] := by rw [List.getD_eq_getElem?_getD, List.getElem?_eq_getElem hjl]; rfl
      rw [h1, h2]
      exact List.pairwise_iff_getElem.1 h.ap i j (by omega) hjl (by omega)
end Go.Proofs.Ygcfag
