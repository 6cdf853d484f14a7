/-
  WALKS: bitsx.Claim.
-/
import Derived.Test.YgcfagW24
import Derived.Test.YgcfagPlain15
namespace Go.Proofs.Ygcfag
open Go.RowKit
set_option linter.unusedVariables false
set_option linter.unusedSimpArgs false

set_option maxHeartbeats 1000000 in
set_option maxRecDepth 100000 in
theorem claim_store {Q : Exit → Act → World → Prop} (g o q at_ : Nat) (v M : Int) (w : World) (hat : at_ < 256) (hq : (at_ : Int) / 64 = (q : Int)) (hq4 : q < 4) (hc : w.cell? ⟨g, o + q, none⟩ = some (.int .u64 v)) (hf : w.frozen? ⟨g, o + q, none⟩ = false)
    (u2 u3 u4 u5 u6 u7 u8 u10 u11 u12 u13 u14 u15 u16 u17 u18 u19 u20 u21 u22 u23 u24 u25 u26 u27 u28 u29 u30 u31 u32 u33 u34 u35 u36 u37 u38 u39 u40 u41 u42 u43 u44 u45 u46 u47 u48 u49 u50 u51 u52 u53 u54 u55 u56 u57 u58 u59 u60 u61 u62 u63 u64 : Value)
    (hK : Hid (∀ (v48 v49 v50 v51 v52 v53 v54 v55 v56 v57 : Value), Q .normal ⟨List.toArray ((.pointer (some ⟨g, o, none⟩)) :: (.int .u16 (at_ : Int)) :: u2 :: u3 :: u4 :: u5 :: u6 :: u7 :: u8 :: (.int .u64 M) :: u10 :: u11 :: u12 :: u13 :: u14 :: u15 :: u16 :: u17 :: u18 :: u19 :: u20 :: u21 :: u22 :: u23 :: u24 :: u25 :: u26 :: u27 :: u28 :: u29 :: u30 :: u31 :: u32 :: u33 :: u34 :: u35 :: u36 :: u37 :: u38 :: u39 :: u40 :: u41 :: u42 :: u43 :: u44 :: u45 :: u46 :: u47 :: v48 :: v49 :: v50 :: v51 :: v52 :: v53 :: v54 :: v55 :: v56 :: v57 :: u58 :: u59 :: u60 :: u61 :: u62 :: u63 :: u64 :: []), []⟩ (w.setCell ⟨g, o + q, none⟩ (.int .u64 (bits .or .u64 v M))).drew)) :
    Code.wp Fagg.prog (bodyAt Fagg.f146 [1, 1, 1, 1, 0, 0, 0, 1, 0, 1, 1, 1, 0]) Q ⟨List.toArray ((.pointer (some ⟨g, o, none⟩)) :: (.int .u16 (at_ : Int)) :: u2 :: u3 :: u4 :: u5 :: u6 :: u7 :: u8 :: (.int .u64 M) :: u10 :: u11 :: u12 :: u13 :: u14 :: u15 :: u16 :: u17 :: u18 :: u19 :: u20 :: u21 :: u22 :: u23 :: u24 :: u25 :: u26 :: u27 :: u28 :: u29 :: u30 :: u31 :: u32 :: u33 :: u34 :: u35 :: u36 :: u37 :: u38 :: u39 :: u40 :: u41 :: u42 :: u43 :: u44 :: u45 :: u46 :: u47 :: u48 :: u49 :: u50 :: u51 :: u52 :: u53 :: u54 :: u55 :: u56 :: u57 :: u58 :: u59 :: u60 :: u61 :: u62 :: u63 :: u64 :: []), []⟩ w := by
  conv => arg 2; whnf
  go_region
  all_goals (first | exact unhide hK _ _ _ _ _ _ _ _ _ _ | go_show)

/-- The four words from o on of block g hold the set. -/
def SetAt (w : World) (g o : Nat) (S : Nat → Bool) : Prop := ∀ k, k < 4 → ∃ v : Nat, w.cell? ⟨g, o + k, none⟩ = some (.int .u64 (v : Int)) ∧ w.frozen? ⟨g, o + k, none⟩ = false ∧ Holds S k v

/-- Nothing but four words has turned. -/
structure Wrote4 (g o : Nat) (w w' : World) : Prop where
  cell : ∀ b p, b ≠ g ∨ p < o ∨ o + 4 ≤ p → w'.cell? ⟨b, p, none⟩ = w.cell? ⟨b, p, none⟩
  frozen : ∀ b p, w'.frozen? ⟨b, p, none⟩ = w.frozen? ⟨b, p, none⟩
  size : w'.heap.size = w.heap.size
  bel : ∀ B, B ≤ g → Below B w w'

theorem Wrote4.refl (g o : Nat) (w : World) : Wrote4 g o w w := ⟨fun _ _ _ => rfl, fun _ _ => rfl, rfl, fun _ _ => Below.refl _ _⟩
theorem wrote_step {g o : Nat} {w u : World} (h : Wrote4 g o w u) (q : Nat) (hq : q < 4) (x : Value) : Wrote4 g o w (u.setCell ⟨g, o + q, none⟩ x).drew := by
  refine ⟨fun b p hb => ?_, fun b p => ?_, ?_, fun B hB => ((h.bel B hB).setCell hB _).drew⟩
  · rw [← h.cell b p hb]
    by_cases hb' : b = g
    · have hp : ¬ p = o + q := by omega
      subst hb'
      simp [go_sem, hp]
    · simp [go_sem, hb']
  · rw [← h.frozen b p]
    simp [go_sem]
  · rw [← h.size]; simp
theorem set_step {g o : Nat} {u : World} {S : Nat → Bool} (h : SetAt u g o S) (q : Nat) (hq : q < 4) {v run sh : Nat} (hv : Holds S q v) (hr : run + sh ≤ 64) (hc : u.cell? ⟨g, o + q, none⟩ = some (.int .u64 (v : Int))) : SetAt (u.setCell ⟨g, o + q, none⟩ (.int .u64 ((v ||| maskN run sh : Nat) : Int))).drew g o (with_ S (64 * q + sh) (64 * q + sh + run)) := by
  intro k hk
  obtain ⟨v', h1, h2, h3⟩ := h k hk
  by_cases e : k = q
  · subst e
    refine ⟨v ||| maskN run sh, by simp [go_sem, hc], by simp [go_sem, h2], or_holds hv hr⟩
  · refine ⟨v', ?_, by simp [go_sem, h2], holds_other h3 (by omega)⟩
    simp [go_sem, e]
    exact h1
end Go.Proofs.Ygcfag
