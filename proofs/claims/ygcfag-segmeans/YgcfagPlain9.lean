/-
  PLAIN: what Pack made, Unpack reads.
-/
import Derived.Test.YgcfagPlain8
namespace Go.Proofs.Ygcfag
set_option linter.unusedVariables false
set_option linter.unusedSimpArgs false

theorem tag_bit (x : Int) (p : Nat) (hp : p < 8) : tagN x / 2 ^ p % 2 = nz (x / 256 ^ p % 256) := by
  have h0 := nz_le (x % 256)
  have h1 := nz_le (x / 256 % 256)
  have h2 := nz_le (x / 65536 % 256)
  have h3 := nz_le (x / 16777216 % 256)
  have h4 := nz_le (x / 4294967296 % 256)
  have h5 := nz_le (x / 1099511627776 % 256)
  have h6 := nz_le (x / 281474976710656 % 256)
  have h7 := nz_le (x / 72057594037927936 % 256)
  unfold tagN
  match p, hp with
  | 0, _ => simp only [Nat.pow_zero, Nat.div_one, Int.pow_zero, Int.ediv_one]; omega
  | 1, _ => simp only [Nat.reducePow, Int.reducePow]; omega
  | 2, _ => simp only [Nat.reducePow, Int.reducePow]; omega
  | 3, _ => simp only [Nat.reducePow, Int.reducePow]; omega
  | 4, _ => simp only [Nat.reducePow, Int.reducePow]; omega
  | 5, _ => simp only [Nat.reducePow, Int.reducePow]; omega
  | 6, _ => simp only [Nat.reducePow, Int.reducePow]; omega
  | 7, _ => simp only [Nat.reducePow, Int.reducePow]; omega

theorem popc_bit : ∀ t : Fin 256, ∀ p : Fin 8, popc (t.val % 2 ^ (p.val + 1)) = popc (t.val % 2 ^ p.val) + t.val / 2 ^ p.val % 2 := by decide +kernel

theorem nzk_count (x : Int) : ∀ p, p ≤ 8 → popc (tagN x % 2 ^ p) = (nzk x p).length
  | 0, _ => by simp [nzk, popc, Nat.mod_one]
  | p + 1, hp => by
    have h := popc_bit ⟨tagN x, tagN_lt x⟩ ⟨p, by omega⟩
    simp only at h
    rw [h, nzk_count x p (by omega), nzk_step x p (by omega), tag_bit x p (by omega), List.length_append]
    unfold nz
    split <;> simp

theorem nonzero_popc (x : Int) : (nonzero x).length = popc (tagN x) := by
  have h := nzk_count x 8 (by omega)
  have e := tag_end ⟨tagN x, tagN_lt x⟩
  simp only at e
  rw [e] at h
  rw [h]; unfold nonzero nzk
  rw [List.take_of_length_le (by simp [bytes8])]

theorem nonzero_pref (x : Int) (p : Nat) : ∃ r, nonzero x = nzk x p ++ r := by
  unfold nonzero nzk
  refine ⟨((bytes8 x).drop p).filter (fun y => decide (y ≠ 0)), ?_⟩
  rw [← List.filter_append, List.take_append_drop]

theorem mod_step (x : Int) (p : Nat) (hp : p < 8) : x % 256 ^ (p + 1) = x % 256 ^ p + x / 256 ^ p % 256 * 256 ^ p := by
  match p, hp with
  | 0, _ => simp only [Int.pow_zero, Int.ediv_one, Nat.zero_add, Int.reducePow, Int.emod_one, Int.mul_one]; omega
  | 1, _ => simp only [Nat.reduceAdd, Int.reducePow]; omega
  | 2, _ => simp only [Nat.reduceAdd, Int.reducePow]; omega
  | 3, _ => simp only [Nat.reduceAdd, Int.reducePow]; omega
  | 4, _ => simp only [Nat.reduceAdd, Int.reducePow]; omega
  | 5, _ => simp only [Nat.reduceAdd, Int.reducePow]; omega
  | 6, _ => simp only [Nat.reduceAdd, Int.reducePow]; omega
  | 7, _ => simp only [Nat.reduceAdd, Int.reducePow]; omega

theorem part_tag (x : Int) (r : List Int) : ∀ p, p ≤ 8 → part (tagN x) (nonzero x ++ r) p = x % 256 ^ p
  | 0, _ => by simp [part, Int.emod_one]
  | p + 1, hp => by
    rw [part, part_tag x r p (by omega), mod_step x p (by omega), tag_bit x p (by omega), nzk_count x p (by omega)]
    congr 1
    obtain ⟨q, hq⟩ := nonzero_pref x (p + 1)
    rw [nzk_step x p (by omega)] at hq
    by_cases hz : x / 256 ^ p % 256 = 0
    · simp [nz, hz]
    · rw [if_neg hz] at hq
      rw [hq]
      simp [nz, hz, List.getD]

theorem part_word (x : Int) (r : List Int) (h0 : 0 ≤ x) (h1 : x < 18446744073709551616) : part (tagN x) (nonzero x ++ r) 8 = x := by
  rw [part_tag x r 8 (by omega)]; simp only [Int.reducePow]; exact Int.emod_eq_of_lt h0 h1

theorem tag_zero (x : Int) (h0 : 0 ≤ x) (h1 : x < 18446744073709551616) (h : tagN x = 0) : x = 0 := by
  have := part_tag x [] 8 (by omega)
  rw [h] at this
  have e : part 0 (nonzero x ++ []) 8 = 0 := by simp [part]
  rw [e] at this
  simp only [Int.reducePow] at this
  omega

theorem zeros_take : ∀ (xs : List Int) (m : Nat), xs.take (zerosOf xs m) = List.replicate (zerosOf xs m) 0
  | [], _ => by simp [zerosOf]
  | x :: xs, 0 => by simp [zerosOf]
  | x :: xs, m + 1 => by
    unfold zerosOf
    split
    · rename_i h; subst h; rw [List.take_succ_cons, List.replicate_succ, zeros_take xs m]
    · simp

theorem bytes8_len (x : Int) : (bytes8 x).length = 8 := rfl

theorem flat8_len : ∀ (xs : List Int), (xs.flatMap bytes8).length = 8 * xs.length
  | [] => rfl
  | x :: xs => by rw [List.flatMap_cons, List.length_append, flat8_len xs, bytes8_len]; simp; omega

theorem flat8_word : ∀ (xs : List Int) (r : List Int) (j : Nat), j < xs.length → (∀ x ∈ xs, 0 ≤ x ∧ x < 18446744073709551616) → le (((xs.flatMap bytes8 ++ r).drop (8 * j)).take 8) = xs.getD j 0
  | [], _, j, h, _ => by simp at h
  | x :: xs, r, 0, _, hw => by
    rw [List.flatMap_cons, Nat.mul_zero, List.drop_zero, List.append_assoc, List.take_append_of_le_length (by simp [bytes8_len]), List.take_of_length_le (by simp [bytes8_len]), le_bytes8 x (hw x (by simp)).1 (hw x (by simp)).2]
    simp
  | x :: xs, r, j + 1, h, hw => by
    rw [List.flatMap_cons, List.append_assoc, show 8 * (j + 1) = (bytes8 x).length + 8 * j by rw [bytes8_len]; omega, List.drop_append, List.drop_of_length_le (by omega), List.nil_append, show (bytes8 x).length + 8 * j - (bytes8 x).length = 8 * j by omega]
    rw [flat8_word xs r j (by simpa using h) (fun y hy => hw y (by simp [hy]))]
    simp

theorem words_range (xs r : List Int) (k m : Nat) (hm : m ≤ xs.length) (f : Nat → Int) (hf : ∀ j, j < m → f j = xs.getD j 0) : (List.range m).map f = xs.take m := by
  apply List.ext_getElem
  · simp; omega
  · intro i h1 h2
    simp at h1
    simp [hf i h1, List.getD, show i < xs.length by omega]

theorem more_zero (s : List Int) (k m : Nat) : (List.range m).map (moreWord s k 0) = List.replicate m 0 := by
  rw [show moreWord s k 0 = fun _ => 0 from funext fun j => by unfold moreWord; rw [if_neg (by omega)]]
  exact (List.map_const' ..).trans (by rw [List.length_range])

/-- One step upon what Pack made. -/
theorem unpackAt_pack : ∀ (n : Nat) (xs out : List Int), xs.length ≤ n → out.length + xs.length ≤ 256 → (∀ x ∈ xs, 0 ≤ x ∧ x < 18446744073709551616) → unpackAt (packOf xs).length (packOf xs) out = some (out ++ xs)
  | n, [], out, _, _, _ => by simp [packOf, packAt, unpackAt]
  | 0, x :: xs, out, h, _, _ => by simp at h
  | n + 1, x :: xs, out, hn, ho, hw => by
    have hx := hw x (by simp)
    have hws : ∀ y ∈ xs, 0 ≤ y ∧ y < 18446744073709551616 := fun y hy => hw y (by simp [hy])
    have hn' : xs.length ≤ n := by simpa using hn
    have ho' : out.length + xs.length + 1 ≤ 256 := by simp at ho; omega
    by_cases t0 : tagN x = 0
    · have hx0 := tag_zero x hx.1 hx.2 t0
      have hz := zerosOf_le xs 255
      rw [packOf_zero t0]
      have hh : headOf (0 :: (zerosOf xs 255 : Int) :: packOf (xs.drop (zerosOf xs 255))) = some (2, zerosOf xs 255, 0) := by
        have := headOf_some (s := 0 :: (zerosOf xs 255 : Int) :: packOf (xs.drop (zerosOf xs 255))) (t := 0) (m := zerosOf xs 255) (by simp) (.inl rfl) (by simp [popc]) (by simp [popc])
        rw [this]; simp [popc]
      have hst : stepOf (0 :: (zerosOf xs 255 : Int) :: packOf (xs.drop (zerosOf xs 255))) out = some (2, out ++ x :: xs.take (zerosOf xs 255)) := by
        rw [stepOf_some hh (by simp; omega) (t := 0) (by simp)]
        rw [zeros_take, hx0]
        simp only [more_zero]
        simp [part]
      rw [unpackAt_step hst]
      have := unpackAt_pack n (xs.drop (zerosOf xs 255)) (out ++ x :: xs.take (zerosOf xs 255)) (by simp; omega) (by simp; omega) (fun y hy => hws y (List.mem_of_mem_drop hy))
      simp only [List.drop_succ_cons, List.drop_zero]
      rw [this]
      simp
    · have hlen := nonzero_popc x
      by_cases t1 : tagN x = 255
      · have hd := denseOf_le xs 255
        have hl8 : (nonzero x).length = 8 := by rw [hlen, t1]; rfl
        rw [packOf_full t1]
        generalize hdd : denseOf xs 255 = d at *
        have hfl := flat8_len (xs.take d)
        have hfl' : ((xs.take d).flatMap bytes8).length = 8 * d := by rw [hfl]; simp; omega
        have hg : ((255 :: nonzero x) ++ (d : Int) :: ((xs.take d).flatMap bytes8 ++ packOf (xs.drop d))).getD 9 0 = (d : Int) := by
          simp [List.getD, hl8]
        have hh : headOf ((255 :: nonzero x) ++ (d : Int) :: ((xs.take d).flatMap bytes8 ++ packOf (xs.drop d))) = some (10, d, 8 * d) := by
          have := headOf_some (s := (255 :: nonzero x) ++ (d : Int) :: ((xs.take d).flatMap bytes8 ++ packOf (xs.drop d))) (t := 255) (m := d) (by simp) (.inr rfl) (by simp [popc, hl8]) hg
          rw [this]; rfl
        have hpart : part 255 (nonzero x ++ (d : Int) :: ((xs.take d).flatMap bytes8 ++ packOf (xs.drop d))) 8 = x := by
          have := part_word x ((d : Int) :: ((xs.take d).flatMap bytes8 ++ packOf (xs.drop d))) hx.1 hx.2
          rw [t1] at this; exact this
        have hdrop : ∀ k, ((255 :: nonzero x) ++ (d : Int) :: ((xs.take d).flatMap bytes8 ++ packOf (xs.drop d))).drop (10 + k) = ((xs.take d).flatMap bytes8 ++ packOf (xs.drop d)).drop k := by
          intro k
          rw [← List.drop_drop]
          congr 1
          rw [List.drop_append, List.drop_of_length_le (by simp [hl8])]
          simp [hl8]
        have hst : stepOf ((255 :: nonzero x) ++ (d : Int) :: ((xs.take d).flatMap bytes8 ++ packOf (xs.drop d))) out = some (10 + 8 * d, out ++ x :: xs.take d) := by
          rw [stepOf_some hh (by simp [hl8, hfl']; omega) (t := 255) (by simp)]
          rw [words_range (xs.take d) [] 0 d (by simp; omega)]
          · rw [List.cons_append, List.tail_cons, hpart, List.take_take, Nat.min_self]
          · intro j hj
            unfold moreWord
            rw [if_pos (by omega), hdrop, flat8_word (xs.take d) _ j (by simp; omega) (fun y hy => hws y (List.mem_of_mem_take hy))]
        rw [unpackAt_step hst, hdrop, List.drop_append, List.drop_of_length_le (by omega), hfl', Nat.sub_self, List.nil_append, List.drop_zero]
        have := unpackAt_pack n (xs.drop d) (out ++ x :: xs.take d) (by simp; omega) (by simp; omega) (fun y hy => hws y (List.mem_of_mem_drop hy))
        rw [this]
        simp
      · rw [packOf_some t0 t1]
        have hh : headOf (((tagN x : Int) :: nonzero x) ++ packOf xs) = some (1 + popc (tagN x), 0, 0) := headOf_plain (by simp) (by omega)
        have hst : stepOf (((tagN x : Int) :: nonzero x) ++ packOf xs) out = some (1 + popc (tagN x) + 0, out ++ [x]) := by
          rw [stepOf_some hh (by simp [hlen]; omega) (t := tagN x) (by simp)]
          rw [List.cons_append, List.tail_cons, part_word x _ hx.1 hx.2]; simp
        rw [unpackAt_step hst]
        have e : (((tagN x : Int) :: nonzero x) ++ packOf xs).drop (1 + popc (tagN x) + 0) = packOf xs := by
          rw [List.drop_append, List.drop_of_length_le (by simp [hlen]; omega)]
          simp [hlen, Nat.add_comm]
        rw [e]
        have := unpackAt_pack n xs (out ++ [x]) hn' (by simp; omega) hws
        rw [this]
        simp

theorem unpack_pack (xs : List Int) (h : xs.length ≤ 256) (hw : ∀ x ∈ xs, 0 ≤ x ∧ x < 18446744073709551616) (hl : (packOf xs).length ≤ 4096) : unpack (packOf xs) = some xs := by
  unfold unpack
  rw [if_neg (by omega), unpackAt_pack xs.length xs [] (by omega) (by simpa using h) hw]
  rfl
end Go.Proofs.Ygcfag
