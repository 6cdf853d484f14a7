/-
  PLAIN: the order of the pending pointers does not matter; their words.
-/
import Derived.Test.YgcfagPlain18
namespace Go.Proofs.Ygcfag
set_option linter.unusedVariables false
set_option linter.unusedSimpArgs false

def disB (o x : Nat × Nat × Nat) : Bool := !meetB o x.1 x.2.1 (x.2.2 - x.2.1)

theorem disB_symm {o x : Nat × Nat × Nat} (h1 : o.2.1 < o.2.2) (h2 : x.2.1 < x.2.2) (h : disB o x = true) : disB x o = true := by
  simp only [disB, meetB, Bool.not_eq_true', Bool.and_eq_false_iff, beq_eq_false_iff_ne, decide_eq_false_iff_not] at *
  omega

theorem addB_iff : ∀ (I L : List (Nat × Nat × Nat)), addB L I = true ↔ (∀ x ∈ I, apartB L x.1 x.2.1 (x.2.2 - x.2.1) = true) ∧ I.Pairwise (fun o x => disB o x = true)
  | [], L => by simp [addB]
  | o :: I, L => by
    rw [addB, Bool.and_eq_true, addB_iff I (L ++ [o]), List.pairwise_cons]
    have e : ∀ x : Nat × Nat × Nat, apartB (L ++ [o]) x.1 x.2.1 (x.2.2 - x.2.1) = (apartB L x.1 x.2.1 (x.2.2 - x.2.1) && disB o x) := fun x => by simp [apartB, disB]
    simp only [e, Bool.and_eq_true, List.mem_cons, forall_eq_or_imp]
    constructor
    · rintro ⟨h1, h2, h3⟩
      exact ⟨⟨h1, fun x hx => (h2 x hx).1⟩, fun x hx => (h2 x hx).2, h3⟩
    · rintro ⟨⟨h1, h2⟩, h3, h4⟩
      exact ⟨h1, fun x hx => ⟨h2 x hx, h3 x hx⟩, h4⟩

theorem addB_comm {I J : List (Nat × Nat × Nat)} (hI : ∀ x ∈ I, x.2.1 < x.2.2) (hJ : ∀ x ∈ J, x.2.1 < x.2.2) (L : List (Nat × Nat × Nat)) : addB L (I ++ J) = addB L (J ++ I) := by
  have key : ∀ {I J : List (Nat × Nat × Nat)}, (∀ x ∈ I, x.2.1 < x.2.2) → (∀ x ∈ J, x.2.1 < x.2.2) → addB L (I ++ J) = true → addB L (J ++ I) = true := by
    intro I J hI hJ h
    rw [addB_iff, List.pairwise_append] at *
    obtain ⟨h1, h2, h3, h4⟩ := h
    exact ⟨fun x hx => h1 x (by rw [List.mem_append] at *; exact hx.symm), h3, h2, fun x hx y hy => disB_symm (hI y hy) (hJ x hx) (h4 y hy x hx)⟩
  cases h : addB L (I ++ J)
  · cases h2 : addB L (J ++ I)
    · rfl
    · rw [key hJ hI h2] at h; cases h
  · exact (key hI hJ h).symm

theorem ivs_wf (s a n : Nat) : ∀ x ∈ ivs s a n, x.2.1 < x.2.2 := by
  intro x hx
  unfold ivs at hx
  split at hx
  · simp at hx
  · simp at hx; subst hx; simp; omega

theorem itemsT_wf (ms : List (List Int)) : ∀ (l s i : Nat), ∀ x ∈ itemsT ms l s i, x.2.1 < x.2.2
  | 0, s, i => by simp [itemsT]
  | l + 1, s, i => by
    intro x hx
    unfold itemsT at hx
    split at hx
    · simp at hx
    · split at hx
      · simp at hx
      · unfold ownIvs at hx
        rw [List.mem_append, List.mem_append, List.mem_flatMap] at hx
        rcases hx with (hx | hx) | ⟨k, _, hx⟩
        · exact ivs_wf _ _ _ x hx
        · exact ivs_wf _ _ _ x hx
        · exact itemsT_wf ms l _ k x hx

theorem itemsL_wf (ms : List (List Int)) (ks : List (Nat × Nat × Nat)) : ∀ x ∈ itemsL ms ks, x.2.1 < x.2.2 := by
  intro x hx
  unfold itemsL at hx
  rw [List.mem_flatMap] at hx
  obtain ⟨k, _, hx⟩ := hx
  exact itemsT_wf ms _ _ _ x hx

theorem FB_comm (ms : List (List Int)) (L ks js : List (Nat × Nat × Nat)) : FB ms L (ks ++ js) = FB ms L (js ++ ks) := by
  unfold FB
  rw [itemsL_append, itemsL_append, addB_comm (itemsL_wf ms ks) (itemsL_wf ms js), List.all_append, List.all_append, Bool.and_comm (ks.all _)]

/-- An interval of the message. -/
def InI (ms : List (List Int)) (o : Nat × Nat × Nat) : Prop := o.1 < ms.length ∧ o.2.1 < o.2.2 ∧ o.2.2 ≤ (ms.getD o.1 []).length

theorem addB_free {ms : List (List Int)} : ∀ (I L : List (Nat × Nat × Nat)), addB L I = true → (∀ o ∈ I, InI ms o) → (L ++ I).length + freeN ms (L ++ I) ≤ L.length + freeN ms L
  | [], L, _, _ => by simp
  | (s, a, b) :: I, L, h, hI => by
    rw [addB, Bool.and_eq_true] at h
    obtain ⟨h1, h2, h3⟩ := hI _ (List.mem_cons_self ..)
    have ih := addB_free I (L ++ [(s, a, b)]) h.2 (fun o ho => hI o (List.mem_cons_of_mem _ ho))
    have e : a + (b - a) = b := by simp only at h2; omega
    have := freeN_add (ms := ms) h.1 h1 (by simp only at h3 ⊢; omega)
    simp only [e] at this
    rw [show L ++ (s, a, b) :: I = L ++ [(s, a, b)] ++ I by simp]
    have hl : (L ++ [(s, a, b)]).length = L.length + 1 := by simp
    simp only at h2
    omega

theorem ivs_in {ms : List (List Int)} {s a n : Nat} (hs : s < ms.length) (h : a + n ≤ (ms.getD s []).length) : ∀ o ∈ ivs s a n, InI ms o := by
  intro o ho
  unfold ivs at ho
  split at ho
  · simp at ho
  · simp at ho; subst ho; exact ⟨hs, by simp; omega, h⟩

theorem own_in {ms : List (List Int)} {p : Sp} (h : InM ms p) : ∀ o ∈ ownIvs p, InI ms o := by
  intro o ho
  unfold ownIvs at ho
  rw [List.mem_append] at ho
  have hw := wordsOf_bd h.good
  have h1 := h.first; have h2 := h.fit; have h3 := h.pat0; have h4 := h.pw0; have h5 := h.pfit
  rcases ho with ho | ho
  · exact ivs_in h.pseg (by omega) o ho
  · exact ivs_in h.seg (by omega) o ho

theorem itemsT_in {ms : List (List Int)} (hw : ∀ i, Wds (ms.getD i [])) : ∀ (l s i : Nat), ∀ x ∈ itemsT ms l s i, InI ms x
  | 0, s, i => by simp [itemsT]
  | l + 1, s, i => by
    intro x hx
    unfold itemsT at hx
    split at hx
    · simp at hx
    · rename_i p hp
      split at hx
      · simp at hx
      · rename_i hk
        rw [List.mem_append, List.mem_flatMap] at hx
        rcases hx with hx | ⟨k, _, hx⟩
        · exact own_in (resolve_inM hp hk hw) x hx
        · exact itemsT_in hw l _ k x hx

theorem itemsL_in {ms : List (List Int)} (hw : ∀ i, Wds (ms.getD i [])) (ks : List (Nat × Nat × Nat)) : ∀ x ∈ itemsL ms ks, InI ms x := by
  intro x hx
  unfold itemsL at hx
  rw [List.mem_flatMap] at hx
  obtain ⟨k, _, hx⟩ := hx
  exact itemsT_in hw _ _ _ x hx

theorem FB_free {ms : List (List Int)} (hw : ∀ i, Wds (ms.getD i [])) {L ks : List (Nat × Nat × Nat)} (h : FB ms L ks = true) : (L ++ itemsL ms ks).length + freeN ms (L ++ itemsL ms ks) ≤ L.length + freeN ms L := by
  unfold FB at h
  rw [Bool.and_eq_true] at h
  exact addB_free _ _ h.2 (itemsL_in hw ks)

theorem kidsE_len (at_ each D K : Nat) : ∀ E, (kidsE at_ each D K E).length = E * K
  | 0 => by simp [kidsE]
  | E + 1 => by
    have ih := kidsE_len at_ each D K E
    unfold kidsE at *
    rw [List.range_succ, List.flatMap_append, List.length_append, ih, Nat.add_mul]; simp

theorem kidsE_mem {at_ each D K E k : Nat} (h : k ∈ kidsE at_ each D K E) (hDK : D + K ≤ each) : k < at_ + E * each := by
  unfold kidsE at h
  rw [List.mem_flatMap] at h
  obtain ⟨e, he, h⟩ := h
  rw [List.mem_map] at h
  obtain ⟨i, hi, rfl⟩ := h
  rw [List.mem_range] at he hi
  have : (e + 1) * each ≤ E * each := Nat.mul_le_mul_right _ he
  rw [Nat.add_mul] at this
  omega

/-- The pointer words of an object lie in it. -/
theorem kids_in {q : Pt} (h : GoodPt q) : (kidsP q).length ≤ (wordsOf q).toNat ∧ ∀ k ∈ kidsP q, (k : Int) < firstOf q + wordsOf q := by
  cases h with
  | struct at_ d p h1 h2 h3 =>
    simp only [kidsP, if_true, wordsOf, firstOf]
    refine ⟨by rw [kidsE_len]; omega, fun k hk => ?_⟩
    have := kidsE_mem hk (by omega)
    simp; omega
  | list at_ c n h1 h2 h3 =>
    by_cases h6 : c = 6
    · subst h6
      simp [kidsP, wordsOf, firstOf, listWords]
      refine ⟨by rw [kidsE_len]; omega, fun k hk => ?_⟩
      have := kidsE_mem hk (by omega)
      omega
    · have h7 : c ≠ 7 := by omega
      simp [kidsP, h6, h7]
  | structs at_ d p n h1 h2 h3 h4 h5 =>
    have hnn : ((n.toNat * (d + p).toNat : Nat) : Int) = n * (d + p) := by
      rw [Int.natCast_mul]
      congr 1 <;> omega
    have hm : n.toNat * p.toNat ≤ n.toNat * (d + p).toNat := Nat.mul_le_mul_left _ (by omega)
    simp [kidsP, wordsOf, firstOf]
    refine ⟨by rw [kidsE_len]; omega, fun k hk => ?_⟩
    have := kidsE_mem hk (by omega)
    omega
end Go.Proofs.Ygcfag
