/-
  WALKS: walk.follow, of what Resolve gives; a round of Validate, in plain words.
-/
import Derived.Test.YgcfagW82
import Derived.Test.YgcfagW75
namespace Go.Proofs.Ygcfag
open Go.RowKit
set_option linter.unusedVariables false
set_option linter.unusedSimpArgs false

def slots (sg dep : Nat) (ks : List Nat) : List (Nat × Nat × Nat) := ks.map fun k => (k, sg, dep)

theorem slots_one (sg dep at_ each d p : Nat) : slots sg dep (kidsE at_ each d p 1) = pushed sg (at_ + d) dep p := by
  simp [slots, kidsE, pushed, List.range_succ]
theorem slots_ptrs (sg dep at_ : Nat) : ∀ n, slots sg dep (kidsE at_ 1 0 1 n) = pushed sg at_ dep n
  | 0 => by simp [slots, kidsE, pushed]
  | n + 1 => by
    have ih := slots_ptrs sg dep at_ n
    rw [kidsE_succ, pushed_succ, ← ih]
    simp [slots, kidL, List.range_succ]
theorem slots_all (sg dep at_ each d p n : Nat) : slots sg dep (kidsE at_ each d p n) = pushedAll sg at_ each d p dep n := by
  simp [slots, kidsE, pushedAll, pushed, List.map_flatMap, Function.comp_def]

theorem follow_good (g sg dep : Nat) (q : Pt) (st : List (Nat × Nat × Nat)) (W : World) (hq : GoodPt q) (hst : StackAt W g st) (hsg : sg < 256) (hfit : firstOf q + wordsOf q ≤ 256) (hlen : st.length + (kidsP q).length ≤ 256) :
    Calls Fagg.prog 79 #[.pointer (some ⟨g, 0, none⟩), spP (sg : Int) q, .int .u8 (dep : Int)] W fun e w' => e = .returned (.tuple #[]) ∧ StackAt w' g (st ++ slots sg dep (kidsP q)) ∧ WroteG g W w' := by
  cases hq with
  | struct at_ d p h1 h2 h3 =>
    obtain ⟨A, rfl⟩ : ∃ A : Nat, at_ = (A : Int) := ⟨at_.toNat, by omega⟩
    obtain ⟨d, rfl⟩ : ∃ A : Nat, d = (A : Int) := ⟨d.toNat, by omega⟩
    obtain ⟨p, rfl⟩ : ∃ A : Nat, p = (A : Int) := ⟨p.toNat, by omega⟩
    have hk : kidsP ⟨1, (A : Int), (d : Int), (p : Int), 0, 0⟩ = kidsE A (d + p) d p 1 := by
      simp only [kidsP, if_true, Int.toNat_natCast]; congr 1
    rw [hk, kidsE_len] at hlen
    simp [firstOf, wordsOf] at hfit
    rw [hk, slots_one]
    exact follow_struct g sg dep d p A st W hst hsg (by omega) (by omega) (by omega) (by omega)
  | structs at_ d p n h1 h2 h3 h4 h5 =>
    obtain ⟨A, rfl⟩ : ∃ A : Nat, at_ = (A : Int) := ⟨at_.toNat, by omega⟩
    obtain ⟨d, rfl⟩ : ∃ A : Nat, d = (A : Int) := ⟨d.toNat, by omega⟩
    obtain ⟨p, rfl⟩ : ∃ A : Nat, p = (A : Int) := ⟨p.toNat, by omega⟩
    obtain ⟨n, rfl⟩ : ∃ A : Nat, n = (A : Int) := ⟨n.toNat, by omega⟩
    have hk : kidsP ⟨2, (A : Int), (d : Int), (p : Int), 7, (n : Int)⟩ = kidsE A (d + p) d p n := by
      simp only [kidsP, Int.toNat_natCast]
      rw [if_neg (by decide), if_neg (by decide), if_pos (by decide)]; congr 1
    rw [hk, kidsE_len] at hlen
    have hm : ((n * (d + p) : Nat) : Int) = (n : Int) * ((d : Int) + (p : Int)) := by simp
    simp only [firstOf, wordsOf, if_true] at hfit
    rw [if_neg (by decide)] at hfit
    rw [hk, slots_all]
    exact follow_structs g sg dep d p n A st W hst hsg (by omega) (by omega) (by omega) (by omega) (by omega)
  | list at_ c n h1 h2 h3 =>
    obtain ⟨A, rfl⟩ : ∃ A : Nat, at_ = (A : Int) := ⟨at_.toNat, by omega⟩
    obtain ⟨c, rfl⟩ : ∃ A : Nat, c = (A : Int) := ⟨c.toNat, by omega⟩
    obtain ⟨n, rfl⟩ : ∃ A : Nat, n = (A : Int) := ⟨n.toNat, by omega⟩
    by_cases h6 : c = 6
    · subst h6
      have hk : kidsP ⟨2, (A : Int), 0, 0, ((6 : Nat) : Int), (n : Int)⟩ = kidsE A 1 0 1 n := by simp [kidsP]
      rw [hk, kidsE_len] at hlen
      simp [firstOf, wordsOf, listWords] at hfit
      rw [hk, slots_ptrs]
      exact follow_ptrs g sg dep n A st W hst hsg (by omega) (by omega) (by omega)
    · have hk : kidsP ⟨2, (A : Int), 0, 0, (c : Int), (n : Int)⟩ = [] := by
        have h6' : ¬ (c : Int) = 6 := by omega
        have h7' : ¬ (c : Int) = 7 := by omega
        simp [kidsP, h6', h7']
      rw [hk]
      simp only [slots, List.map_nil, List.append_nil]
      exact follow_plain g sg dep n A c st W hst (by omega)

/-- One step of Validate, in plain words. -/
theorem val_step {ms : List (List Int)} {s i l : Nat} {p : Sp} (h : resolveB ms s i = some p) (hk : p.pt.kind ≠ 0) (hl : 1 ≤ l) (L ks : List (Nat × Nat × Nat)) :
    FB ms L (ks ++ [(l, s, i)]) = (addB L (ownIvs p) && (paddedOf (ms.getD p.seg.toNat []) p.pt && FB ms (L ++ ownIvs p) (ks ++ kn (l - 1) p.seg.toNat (kidsP p.pt)))) := by
  obtain ⟨h1, h2⟩ := FB_node1 h hk hl L
  rw [FB_comm, FB_append, h1, h2, FB_comm ms (L ++ ownIvs p) ks, FB_append ms (L ++ ownIvs p) (kn _ _ _) ks, ← List.append_assoc]
  cases addB L (ownIvs p) <;> cases paddedOf (ms.getD p.seg.toNat []) p.pt <;> simp

theorem val_null {ms : List (List Int)} {s i l : Nat} {p : Sp} (h : resolveB ms s i = some p) (hk : p.pt.kind = 0) (L ks : List (Nat × Nat × Nat)) : FB ms L (ks ++ [(l, s, i)]) = FB ms L ks := by
  obtain ⟨h1, h2⟩ := FB_null h hk L l
  rw [FB_comm, FB_append, h1, h2]; simp

theorem val_none {ms : List (List Int)} {s i l : Nat} (h : resolveB ms s i = none) (L ks : List (Nat × Nat × Nat)) : FB ms L (ks ++ [(l, s, i)]) = false := by
  rw [FB_comm, FB_append, FB_none h]; simp

theorem val_deep {ms : List (List Int)} {s i : Nat} {p : Sp} (h : resolveB ms s i = some p) (hk : p.pt.kind ≠ 0) (L ks : List (Nat × Nat × Nat)) : FB ms L (ks ++ [(0, s, i)]) = false := by
  rw [FB_comm, FB_append, FB_deep h hk]; simp
end Go.Proofs.Ygcfag
