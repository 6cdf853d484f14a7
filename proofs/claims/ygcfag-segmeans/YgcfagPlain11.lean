/-
  PLAIN: a sealed frame opens.
-/
import Derived.Test.YgcfagPlain10
import Derived.Test.YgcfagW17b
import Derived.Test.YgcfagW8b
namespace Go.Proofs.Ygcfag
set_option linter.unusedVariables false
set_option linter.unusedSimpArgs false

/-- The sum of a frame. -/
def sumF (xs : List Int) : Int := sumOn (sumOn 2166136261 (xs.take 12)) (xs.drop 16)
/-- The sum laid into bytes 12 .. 15. -/
def laid4 (xs : List Int) (s : Int) : List Int := xs.take 12 ++ ((bytes8 s).take 4 ++ xs.drop 16)
/-- A frame ahead of its sum. -/
def rawOf (ms : List (List Int)) (packed : Bool) : List Int :=
  [9417676631 + (if packed then 281474976710656 else 0), (total ms : Int), tabOf ms 0, tabOf ms 1].flatMap bytes8 ++ (if packed then packOf ms.flatten else ms.flatten.flatMap bytes8)
/-- segwire.Seal. -/
def sealOf (ms : List (List Int)) (packed : Bool) : List Int := laid4 (rawOf ms packed) (sumF (rawOf ms packed))

theorem sumF_bd (xs : List Int) : 0 ≤ sumF xs ∧ sumF xs < 4294967296 := by
  have h := sumOn_bd 2166136261 (xs.take 12) (by omega) (by omega)
  exact sumOn_bd _ _ h.1 h.2

theorem laid4_len (xs : List Int) (s : Int) (h : 16 ≤ xs.length) : (laid4 xs s).length = xs.length := by simp [laid4, bytes8]; omega
theorem laid4_take (xs : List Int) (s : Int) (h : 16 ≤ xs.length) : (laid4 xs s).take 12 = xs.take 12 := by
  unfold laid4; rw [List.take_append_of_le_length (by simp; omega), List.take_take, Nat.min_self]
theorem laid4_drop (xs : List Int) (s : Int) (h : 16 ≤ xs.length) : (laid4 xs s).drop 16 = xs.drop 16 := by
  unfold laid4
  rw [← List.append_assoc, List.drop_append, List.drop_of_length_le (by simp [bytes8]; omega)]
  simp [bytes8, show min 12 xs.length = 12 by omega]
theorem laid4_num (xs : List Int) (s : Int) (h : 16 ≤ xs.length) (h0 : 0 ≤ s) (h1 : s < 4294967296) : num (laid4 xs s) 12 4 = s := by
  unfold num laid4
  rw [List.drop_append, List.drop_of_length_le (by simp; omega), List.nil_append, show 12 - (xs.take 12).length = 0 by simp; omega, List.drop_zero, List.take_append_of_le_length (by simp [bytes8])]
  simp only [bytes8, List.take_succ_cons, List.take_zero, le]
  omega
theorem num_low (xs ys : List Int) (a n : Nat) (h : a + n ≤ 12) (he : xs.take 12 = ys.take 12) : num xs a n = num ys a n := by
  unfold num
  have e : ∀ zs : List Int, (zs.drop a).take n = ((zs.take 12).drop a).take n := fun zs => by
    rw [List.drop_take, List.take_take, show min n (12 - a) = n by omega]
  rw [e xs, e ys, he]
theorem laid4_bys (xs : List Int) (s : Int) (hx : Bys xs) : Bys (laid4 xs s) := (hx.take 12).append (((bytes8_bys s).take 4).append (hx.drop 16))

/-- A frame whose sum was laid, a byte of it turned: it does not open. -/
theorem open_flip (raw : List Int) (i : Nat) (y : Int) (hx : Bys raw) (h32 : 32 ≤ raw.length) (hi : i < raw.length) (hy : 0 ≤ y ∧ y < 256) (hne : y ≠ (laid4 raw (sumF raw)).getD i 0) :
    (openOf ((laid4 raw (sumF raw)).set i y)).1 ≠ 0 := by
  have hb := sumF_bd raw
  have hl := laid4_len raw (sumF raw) (by omega)
  refine open_turned _ i y (laid4_bys _ _ hx) (by omega) ?_ (by omega) hy hne
  rw [laid4_take _ _ (by omega), laid4_drop _ _ (by omega), laid4_num _ _ (by omega) hb.1 hb.2]
  rfl

theorem tabAt_seal (ms : List (List Int)) : ∀ k, tabAt (entN ms) (total ms) k = some ((ms.take k).map List.length ++ List.replicate (k - ms.length) 0, min k ms.length, total ms - total (ms.take k))
  | 0 => by simp [tabAt, total_nil]
  | k + 1 => by
    have ih := tabAt_seal ms k
    by_cases hk : k < ms.length
    · have h1 := total_step ms k hk
      have h2 := total_le ms (k + 1)
      have he : entN ms k = (ms.getD k []).length + 1 := by unfold entN; rw [if_pos hk]
      rw [tabAt_next ih (by omega) (by omega), he]
      rw [take_snocL [] ms k hk]
      rw [show k - ms.length = 0 by omega, show k + 1 - ms.length = 0 by omega]
      rw [take_snocL [] ms k hk] at h1
      rw [h1]
      simp only [List.replicate_zero, List.append_nil, List.map_append, List.map_cons, List.map_nil, Nat.add_sub_cancel, Option.some.injEq, Prod.mk.injEq, true_and]
      omega
    · have he : entN ms k = 0 := by unfold entN; rw [if_neg hk]
      rw [tabAt_zero ih he]
      rw [List.take_of_length_le (by omega), List.take_of_length_le (by omega), show k + 1 - ms.length = (k - ms.length) + 1 by omega, List.replicate_succ']
      simp
      omega

theorem tableOf_seal (ms : List (List Int)) (h : fitsOf ms = true) : ∃ l n, tableOf (entN ms) (total ms) = some (l, n) ∧ l.take n = ms.map List.length := by
  have hf : 1 ≤ ms.length ∧ ms.length ≤ 8 ∧ 1 ≤ (ms.getD 0 []).length ∧ total ms ≤ 256 := by simpa [fitsOf] using h
  refine ⟨(ms.take 8).map List.length ++ List.replicate (8 - ms.length) 0, min 8 ms.length, ?_, ?_⟩
  · unfold tableOf
    rw [tabAt_seal ms 8]
    simp only
    rw [if_pos ?_]
    refine ⟨by rw [List.take_of_length_le (by omega)]; omega, ?_⟩
    rw [List.take_of_length_le (by omega)]
    match ms, hf with
    | m :: ms, hf =>
      have := hf.2.2.1
      simp at this ⊢
      omega
  · rw [List.take_of_length_le (l := ms) (by omega), show min 8 ms.length = (ms.map List.length).length by simp; omega]
    exact List.take_left ..

theorem cuts_flat : ∀ (ms : List (List Int)), cuts (ms.map List.length) ms.flatten = ms
  | [] => rfl
  | m :: ms => by
    simp only [List.map_cons, cuts, List.flatten_cons]
    rw [List.take_left' rfl, List.drop_left' rfl, cuts_flat ms]

theorem entN_bd (ms : List (List Int)) (h : total ms ≤ 256) (i : Nat) : entN ms i ≤ 257 := by
  unfold entN
  split
  · rename_i hi
    have := total_ge ms i hi
    omega
  · omega

theorem tabOf_range (ms : List (List Int)) (h : total ms ≤ 256) (j : Nat) : 0 ≤ tabOf ms j ∧ tabOf ms j < 18446744073709551616 := by
  have h0 := entN_bd ms h (4 * j)
  have h1 := entN_bd ms h (4 * j + 1)
  have h2 := entN_bd ms h (4 * j + 2)
  have h3 := entN_bd ms h (4 * j + 3)
  unfold tabOf
  omega

theorem quart0 (a b c d : Nat) (ha : a ≤ 257) (hb : b ≤ 257) (hc : c ≤ 257) (hd : d ≤ 257) : ((a : Int) + b * 65536 + c * 4294967296 + d * 281474976710656) % 256 + 256 * (((a : Int) + b * 65536 + c * 4294967296 + d * 281474976710656) / 256 % 256) = (a : Int) := by omega
theorem quart1 (a b c d : Nat) (ha : a ≤ 257) (hb : b ≤ 257) (hc : c ≤ 257) (hd : d ≤ 257) : ((a : Int) + b * 65536 + c * 4294967296 + d * 281474976710656) / 65536 % 256 + 256 * (((a : Int) + b * 65536 + c * 4294967296 + d * 281474976710656) / 16777216 % 256) = (b : Int) := by omega
theorem quart2 (a b c d : Nat) (ha : a ≤ 257) (hb : b ≤ 257) (hc : c ≤ 257) (hd : d ≤ 257) : ((a : Int) + b * 65536 + c * 4294967296 + d * 281474976710656) / 4294967296 % 256 + 256 * (((a : Int) + b * 65536 + c * 4294967296 + d * 281474976710656) / 1099511627776 % 256) = (c : Int) := by omega
theorem quart3 (a b c d : Nat) (ha : a ≤ 257) (hb : b ≤ 257) (hc : c ≤ 257) (hd : d ≤ 257) : ((a : Int) + b * 65536 + c * 4294967296 + d * 281474976710656) / 281474976710656 % 256 + 256 * (((a : Int) + b * 65536 + c * 4294967296 + d * 281474976710656) / 72057594037927936 % 256) = (d : Int) := by omega
theorem le2 (x y : Int) (n : Nat) (h : x + 256 * y = (n : Int)) : (le [x, y]).toNat = n := by simp only [le]; omega

theorem entry_seal (ms : List (List Int)) (h : total ms ≤ 256) (h8 : ms.length ≤ 8) : entry (bytes8 (tabOf ms 0) ++ bytes8 (tabOf ms 1)) = entN ms := by
  funext i
  have hb := entN_bd ms h
  unfold entry
  match i with
  | 0 => exact le2 _ _ _ (quart0 _ _ _ _ (hb _) (hb _) (hb _) (hb _))
  | 1 => exact le2 _ _ _ (quart1 _ _ _ _ (hb _) (hb _) (hb _) (hb _))
  | 2 => exact le2 _ _ _ (quart2 _ _ _ _ (hb _) (hb _) (hb _) (hb _))
  | 3 => exact le2 _ _ _ (quart3 _ _ _ _ (hb _) (hb _) (hb _) (hb _))
  | 4 => exact le2 _ _ _ (quart0 _ _ _ _ (hb _) (hb _) (hb _) (hb _))
  | 5 => exact le2 _ _ _ (quart1 _ _ _ _ (hb _) (hb _) (hb _) (hb _))
  | 6 => exact le2 _ _ _ (quart2 _ _ _ _ (hb _) (hb _) (hb _) (hb _))
  | 7 => exact le2 _ _ _ (quart3 _ _ _ _ (hb _) (hb _) (hb _) (hb _))
  | i + 8 =>
    rw [List.drop_of_length_le (by simp [bytes8]; omega)]
    simp [le, entN]; omega

/-- What Seal made, Open reads. -/
theorem open_seal (ms : List (List Int)) (packed : Bool) (hf : fitsOf ms = true) (hw : ∀ x ∈ ms.flatten, 0 ≤ x ∧ x < 18446744073709551616) : openOf (sealOf ms packed) = (0, ms) := by
  have hf' : 1 ≤ ms.length ∧ ms.length ≤ 8 ∧ 1 ≤ (ms.getD 0 []).length ∧ total ms ≤ 256 := by simpa [fitsOf] using hf
  obtain ⟨l, n, htab, hln⟩ := tableOf_seal ms hf
  have hfl := flat_total ms
  have hb := sumF_bd (rawOf ms packed)
  have hP : payload (if packed then packOf ms.flatten else ms.flatten.flatMap bytes8) packed (total ms) = some ms.flatten := by
    unfold payload
    have hp := packOf_bd _ ms.flatten (Nat.le_refl _)
    cases packed with
    | true => simpa using unpack_pack ms.flatten (by omega) hw (by omega)
    | false =>
      have h8 := flat8_len ms.flatten
      simp only [Bool.false_eq_true, if_false]
      rw [if_pos (by omega)]
      congr 1
      unfold plainWords
      rw [words_range ms.flatten [] 0 (total ms) (by omega), List.take_of_length_le (by omega)]
      intro j hj
      unfold wordAt
      have := flat8_word ms.flatten [] j (by omega) hw
      rw [List.append_nil] at this
      exact this
  generalize hPd : (if packed then packOf ms.flatten else ms.flatten.flatMap bytes8) = P at *
  have hraw : rawOf ms packed = bytes8 (9417676631 + (if packed then 281474976710656 else 0)) ++ (bytes8 (total ms : Int) ++ ((bytes8 (tabOf ms 0) ++ bytes8 (tabOf ms 1)) ++ P)) := by
    unfold rawOf; rw [hPd]; simp [List.flatMap_cons]
  have hlen : 32 ≤ (rawOf ms packed).length := by rw [hraw]; simp [bytes8_len]; omega
  have n0 : num (rawOf ms packed) 0 4 = 827742039 := by rw [hraw]; cases packed <;> simp [num, bytes8, le]
  have n1 : num (rawOf ms packed) 4 2 = 2 := by rw [hraw]; cases packed <;> simp [num, bytes8, le]
  have n2 : num (rawOf ms packed) 6 2 = if packed then 1 else 0 := by rw [hraw]; cases packed <;> simp [num, bytes8, le]
  have n3 : num (rawOf ms packed) 8 4 = (total ms : Int) := by
    rw [hraw]
    have : (bytes8 (9417676631 + (if packed then 281474976710656 else 0)) ++ (bytes8 (total ms : Int) ++ ((bytes8 (tabOf ms 0) ++ bytes8 (tabOf ms 1)) ++ P))).drop 8 = bytes8 (total ms : Int) ++ ((bytes8 (tabOf ms 0) ++ bytes8 (tabOf ms 1)) ++ P) := List.drop_left' rfl
    unfold num
    rw [this]
    generalize total ms = t at *
    simp [bytes8, le]; omega
  have ht : (sealOf ms packed).take 12 = (rawOf ms packed).take 12 := laid4_take _ _ (by omega)
  have hd : (sealOf ms packed).drop 16 = (rawOf ms packed).drop 16 := laid4_drop _ _ (by omega)
  have hl : (sealOf ms packed).length = (rawOf ms packed).length := laid4_len _ _ (by omega)
  have hd16 : (rawOf ms packed).drop 16 = (bytes8 (tabOf ms 0) ++ bytes8 (tabOf ms 1)) ++ P := by
    rw [hraw, ← List.append_assoc]; exact List.drop_left' rfl
  have hd32 : (sealOf ms packed).drop 32 = P := by
    rw [show 32 = 16 + 16 by rfl, ← List.drop_drop, hd, hd16]; exact List.drop_left' rfl
  have e16 : ((sealOf ms packed).drop 16).take 16 = bytes8 (tabOf ms 0) ++ bytes8 (tabOf ms 1) := by
    rw [hd, hd16]; exact List.take_left' rfl
  rw [openOf_ge _ (by omega), num_low _ _ 0 4 (by omega) ht, num_low _ _ 4 2 (by omega) ht, num_low _ _ 6 2 (by omega) ht, num_low _ _ 8 4 (by omega) ht, n0, n1, n2, n3]
  rw [if_neg (by simp), if_neg (by simp), if_neg (by cases packed <;> simp), if_neg (by omega), if_neg]
  · have h2 : (((if packed then 1 else 0 : Int) == 1) : Bool) = packed := by cases packed <;> rfl
    rw [openRest_ok (l := l) (n := n) (all := ms.flatten) (by rw [e16, entry_seal ms hf'.2.2.2 hf'.2.1]; exact htab) (by rw [hd32, h2]; exact hP) (by omega), hln, cuts_flat]
  · intro h
    apply h
    rw [ht, hd, show num (sealOf ms packed) 12 4 = sumF (rawOf ms packed) from laid4_num _ _ (by omega) hb.1 hb.2]
    rfl
end Go.Proofs.Ygcfag
