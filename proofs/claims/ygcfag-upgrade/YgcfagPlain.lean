/-
  THE PLAIN FUNCTIONS OF THIS SEAT's PROOFS: lists of numbers; no Go in sight.
-/
namespace Go.Proofs.Ygcfag

/-- A number out of its bytes, the least first. -/
def le : List Int → Int
  | [] => 0
  | x :: xs => x + 256 * le xs

/-- Each is a byte. -/
def Bys (xs : List Int) : Prop := ∀ i, 0 ≤ xs.getD i 0 ∧ xs.getD i 0 < 256

theorem Bys.drop {xs : List Int} (h : Bys xs) (n : Nat) : Bys (xs.drop n) := fun i => by
  have := h (n + i); simpa [List.getD] using this
theorem Bys.take {xs : List Int} (h : Bys xs) (n : Nat) : Bys (xs.take n) := fun i => by
  have := h i
  simp only [List.getD, List.getElem?_take] at *
  split <;> simp_all
theorem Bys.append {xs ys : List Int} (h : Bys xs) (k : Bys ys) : Bys (xs ++ ys) := fun i => by
  have h1 := h i
  have h2 := k (i - xs.length)
  simp only [List.getD, List.getElem?_append] at *
  split <;> assumption
theorem Bys.cons {x : Int} {xs : List Int} (h : Bys (x :: xs)) : (0 ≤ x ∧ x < 256) ∧ Bys xs :=
  ⟨by simpa using h 0, fun i => by simpa using h (i + 1)⟩

theorem le_nonneg : ∀ xs : List Int, Bys xs → 0 ≤ le xs
  | [], _ => by simp [le]
  | x :: xs, h => by have := le_nonneg xs h.cons.2; have := h.cons.1; simp only [le]; omega

theorem le_lt : ∀ (xs : List Int) (n : Nat), Bys xs → xs.length ≤ n → le xs < 256 ^ n
  | [], n, _, _ => by simp only [le]; exact Int.pow_pos (by omega)
  | x :: xs, 0, _, h => by simp at h
  | x :: xs, n + 1, h, hl => by
    have h1 := le_lt xs n h.cons.2 (by simpa using hl)
    have := h.cons.1
    simp only [le]
    rw [Int.pow_succ]
    omega

/-- One step of the checksum, and the checksum of bytes behind others. -/
def fnv (h c : Int) : Int := ((h.toNat ^^^ c.toNat : Nat) : Int) * 16777619 % 4294967296
def sumOn (h : Int) (xs : List Int) : Int := xs.foldl fnv h

theorem take_snoc (xs : List Int) (k : Nat) (h : k < xs.length) : xs.take (k + 1) = xs.take k ++ [xs.getD k 0] := by
  rw [List.take_succ_eq_append_getElem h]; simp [List.getD, h]

theorem sumOn_snoc (h : Int) (xs : List Int) (k : Nat) (hk : k < xs.length) : sumOn h (xs.take (k + 1)) = fnv (sumOn h (xs.take k)) (xs.getD k 0) := by
  rw [take_snoc xs k hk]; simp [sumOn]

theorem sumOn_bd (h : Int) (xs : List Int) (h0 : 0 ≤ h) (h1 : h < 4294967296) : 0 ≤ sumOn h xs ∧ sumOn h xs < 4294967296 := by
  induction xs generalizing h with
  | nil => exact ⟨h0, h1⟩
  | cons x xs ih => simp only [sumOn, List.foldl_cons]; exact ih _ (by unfold fnv; omega) (by unfold fnv; omega)

/-! ### The packed stream -/
/-- How many of a byte's bits are set. -/
def popc (t : Nat) : Nat := t % 2 + t / 2 % 2 + t / 4 % 2 + t / 8 % 2 + t / 16 % 2 + t / 32 % 2 + t / 64 % 2 + t / 128 % 2

/-- The place of the lowest bit of a byte that is set; 8 for none. -/
def low8 (t : Nat) : Nat :=
  if t % 2 = 1 then 0 else if t / 2 % 2 = 1 then 1 else if t / 4 % 2 = 1 then 2 else if t / 8 % 2 = 1 then 3
  else if t / 16 % 2 = 1 then 4 else if t / 32 % 2 = 1 then 5 else if t / 64 % 2 = 1 then 6 else if t / 128 % 2 = 1 then 7 else 8

/-- What the bytes 'bs' give for the first p bits of the tag t: a bit that is set takes the next byte. -/
def part (t : Nat) (bs : List Int) : Nat → Int
  | 0 => 0
  | p + 1 => part t bs p + (if t / 2 ^ p % 2 = 1 then bs.getD (popc (t % 2 ^ p)) 0 * 256 ^ p else 0)

theorem popc_le (t : Nat) : popc t ≤ 8 := by unfold popc; omega

theorem low8_facts : ∀ t : Fin 256, ∀ p : Fin 9, t.val % 2 ^ p.val = 0 → t.val ≠ 0 →
    p.val ≤ low8 t.val ∧ low8 t.val < 8 ∧ (t.val &&& (t.val - 1)) % 2 ^ (low8 t.val + 1) = 0 ∧ (t.val &&& (t.val - 1)) < 256 ∧ t.val / 2 ^ low8 t.val % 2 = 1 := by decide +kernel

/-- What a tag says: how many bytes to the end of its head, how many words more, how many bytes of them stand there. -/
def headOf (s : List Int) : Option (Nat × Nat × Nat) :=
  if (s.getD 0 0).toNat = 0 ∨ (s.getD 0 0).toNat = 255 then
    if s.length ≤ 1 + popc (s.getD 0 0).toNat then none
    else some (1 + popc (s.getD 0 0).toNat + 1, (s.getD (1 + popc (s.getD 0 0).toNat) 0).toNat, if (s.getD 0 0).toNat = 255 then 8 * (s.getD (1 + popc (s.getD 0 0).toNat) 0).toNat else 0)
  else some (1 + popc (s.getD 0 0).toNat, 0, 0)

/-- The j-th word more. -/
def moreWord (s : List Int) (k v j : Nat) : Int := if 0 < v then le ((s.drop (k + 8 * j)).take 8) else 0

/-- One step of unpacking: what is left of the stream, the words so far. -/
def stepOf (s out : List Int) : Option (Nat × List Int) :=
  match headOf s with
  | none => none
  | some (k, m, v) =>
    if s.length < k + v ∨ 256 < out.length + 1 + m then none
    else some (k + v, out ++ part (s.getD 0 0).toNat s.tail 8 :: (List.range m).map (moreWord s k v))

end Go.Proofs.Ygcfag
