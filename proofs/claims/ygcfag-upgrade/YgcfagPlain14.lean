/-
  PLAIN: pointers as Resolve gives them; the words of their objects.
-/
import Derived.Test.YgcfagPlain13
namespace Go.Proofs.Ygcfag
set_option linter.unusedVariables false
set_option linter.unusedSimpArgs false

/-- A struct, a plain list, a list of structs, within the limits. -/
inductive GoodPt : Pt → Prop
  | struct (at_ d p : Int) (h1 : 0 ≤ at_ ∧ at_ ≤ 256) (h2 : 0 ≤ d ∧ d ≤ 8) (h3 : 0 ≤ p ∧ p ≤ 8) : GoodPt ⟨1, at_, d, p, 0, 0⟩
  | list (at_ c n : Int) (h1 : 0 ≤ at_ ∧ at_ ≤ 256) (h2 : 2 ≤ c ∧ c ≤ 6) (h3 : 0 ≤ n ∧ n ≤ 128) : GoodPt ⟨2, at_, 0, 0, c, n⟩
  | structs (at_ d p n : Int) (h1 : 1 ≤ at_ ∧ at_ ≤ 256) (h2 : 0 ≤ d ∧ d ≤ 8) (h3 : 0 ≤ p ∧ p ≤ 8) (h4 : 0 ≤ n ∧ n ≤ 128) (h5 : n * (d + p) + 1 ≤ 256) : GoodPt ⟨2, at_, d, p, 7, n⟩

/-- The words of an object, its tag counted. -/
def wordsOf (q : Pt) : Int := if q.kind = 1 then q.data + q.ptrs else if q.code = 7 then 1 + q.count * (q.data + q.ptrs) else listWords q.code q.count

/-- Its first word. -/
def firstOf (q : Pt) : Int := if q.code = 7 then q.at_ - 1 else q.at_

theorem spansB_in {n : Nat} {low tt k : Int} (hlow : 0 ≤ low) (hk : 0 ≤ k) (h : spansB n low tt k = true) : 0 ≤ tt ∧ tt + k ≤ (n : Int) := by
  unfold spansB at h
  split at h
  · simp at h; omega
  · simp at h; omega

/-- What Resolve takes is good, and lies in its segment. -/
theorem readOf_good {a : List Int} {w base low : Int} {q : Pt} (h : readOf a w base low = some q) (hw : w ≠ 0) (hl : a.length ≤ 256) (hlow : 0 ≤ low) (hw0 : 0 ≤ w) (hax : ∀ i, 0 ≤ a.getD i 0) :
    GoodPt q ∧ 0 ≤ firstOf q ∧ firstOf q + wordsOf q ≤ (a.length : Int) := by
  unfold readOf at h
  rw [if_neg hw] at h
  unfold readNZ at h
  have hd := data_bd w
  have hp := ptrs_bd w
  split at h
  · split at h
    · cases h
    · rename_i hn
      have hs : sizedB w = true := by cases hh : sizedB w <;> simp_all
      have hsp : spansB a.length low (base + sgn30 (w / 4)) (dataOf w + ptrsOf w) = true := by
        cases hh : spansB a.length low (base + sgn30 (w / 4)) (dataOf w + ptrsOf w) <;> simp_all
      have hb := spansB_in hlow (by omega) hsp
      have hsz : dataOf w ≤ 8 ∧ ptrsOf w ≤ 8 := by simpa [sizedB] using hs
      obtain rfl := Option.some.inj h
      refine ⟨.struct _ _ _ (by omega) (by omega) (by omega), ?_, ?_⟩
      · simp [firstOf]; omega
      · simp [firstOf, wordsOf]; omega
  · split at h
    · split at h
      · unfold structsOf at h
        have hk0 : 0 ≤ w / 34359738368 := by omega
        split at h
        · cases h
        · rename_i hn
          have hsp : spansB a.length low (base + sgn30 (w / 4)) (w / 34359738368 + 1) = true := by
            cases hh : spansB a.length low (base + sgn30 (w / 4)) (w / 34359738368 + 1) <;> simp_all
          have hb := spansB_in hlow (by omega) hsp
          simp only at h
          generalize base + sgn30 (w / 4) = tt at *
          have htg := hax tt.toNat
          generalize a.getD tt.toNat 0 = tg at *
          have hd2 := data_bd tg
          have hp2 := ptrs_bd tg
          split at h
          · cases h
          · rename_i hn2
            have hs2 : sizedB tg = true := by cases hh : sizedB tg <;> simp_all
            have hsz : dataOf tg ≤ 8 ∧ ptrsOf tg ≤ 8 := by simpa [sizedB] using hs2
            split at h
            · cases h
            · rename_i hn3
              obtain rfl := Option.some.inj h
              have hm : tg / 4 % 1073741824 * (dataOf tg + ptrsOf tg) = w / 34359738368 := by
                by_cases hh : tg / 4 % 1073741824 * (dataOf tg + ptrsOf tg) = w / 34359738368
                · exact hh
                · exact absurd (.inr hh) hn3
              have h128 : ¬ 128 < tg / 4 % 1073741824 := fun hh => hn2 (.inr (.inr hh))
              refine ⟨.structs _ _ _ _ (by omega) (by omega) (by omega) (by omega) (by omega), ?_, ?_⟩
              · simp [firstOf]; omega
              · simp [firstOf, wordsOf]; omega
      · unfold plainOf at h
        split at h
        · cases h
        · rename_i hn
          have hk0 : 0 ≤ w / 34359738368 := by omega
          split at h
          · cases h
          · rename_i hn2
            have hsp : spansB a.length low (base + sgn30 (w / 4)) (listWords (w / 4294967296 % 8) (w / 34359738368)) = true := by
              cases hh : spansB a.length low (base + sgn30 (w / 4)) (listWords (w / 4294967296 % 8) (w / 34359738368)) <;> simp_all
            have hlw : 0 ≤ listWords (w / 4294967296 % 8) (w / 34359738368) := by
              unfold listWords
              split
              · omega
              · have : 0 ≤ w / 34359738368 * 2 ^ (w / 4294967296 % 8 - 2).toNat := Int.mul_nonneg hk0 (Int.le_of_lt (Int.pow_pos (by omega)))
                omega
            have hb := spansB_in hlow hlw hsp
            obtain rfl := Option.some.inj h
            refine ⟨.list _ _ _ (by omega) (by omega) (by omega), ?_, ?_⟩
            · have h7 : ¬ w / 4294967296 % 8 = 7 := by omega
              simp only [firstOf, h7, if_false]; omega
            · have h7 : ¬ w / 4294967296 % 8 = 7 := by omega
              simp [firstOf, wordsOf, h7]; omega
    · cases h
end Go.Proofs.Ygcfag
