/-
  PLAIN: the tree of pointers behind a word: what must hold of it, and its intervals.
-/
import Derived.Test.YgcfagPlain16
import Derived.Test.YgcfagW55
import Derived.Test.YgcfagW42
namespace Go.Proofs.Ygcfag
set_option linter.unusedVariables false
set_option linter.unusedSimpArgs false

/-- The pointer words of an object, from word at_ on: E elements of 'each' words, each with K pointers behind D words. -/
def kidsE (at_ each D K E : Nat) : List Nat := (List.range E).flatMap fun e => (List.range K).map fun i => at_ + e * each + D + i

/-- The pointer words of an object. -/
def kidsP (q : Pt) : List Nat :=
  if q.kind = 1 then kidsE q.at_.toNat (q.data + q.ptrs).toNat q.data.toNat q.ptrs.toNat 1
  else if q.code = 6 then kidsE q.at_.toNat 1 0 1 q.count.toNat
  else if q.code = 7 then kidsE q.at_.toNat (q.data + q.ptrs).toNat q.data.toNat q.ptrs.toNat q.count.toNat
  else []

def goodT (ms : List (List Int)) : Nat → Nat → Nat → Bool
  | 0, s, i => match resolveB ms s i with
    | none => false
    | some p => p.pt.kind == 0
  | l + 1, s, i => match resolveB ms s i with
    | none => false
    | some p => p.pt.kind == 0 || (paddedOf (ms.getD p.seg.toNat []) p.pt && (kidsP p.pt).all fun k => goodT ms l p.seg.toNat k)

/-- The intervals of a pointer itself: its pad's and its object's. -/
def ownIvs (p : Sp) : List (Nat × Nat × Nat) := ivs p.pseg.toNat p.pat.toNat p.pwords.toNat ++ ivs p.seg.toNat (firstOf p.pt).toNat (wordsOf p.pt).toNat

def itemsT (ms : List (List Int)) : Nat → Nat → Nat → List (Nat × Nat × Nat)
  | 0, s, i => []
  | l + 1, s, i => match resolveB ms s i with
    | none => []
    | some p => if p.pt.kind = 0 then [] else ownIvs p ++ (kidsP p.pt).flatMap fun k => itemsT ms l p.seg.toNat k

/-- Each of the intervals is apart from those of L and from those ahead of it. -/
def addB : List (Nat × Nat × Nat) → List (Nat × Nat × Nat) → Bool
  | L, [] => true
  | L, o :: I => apartB L o.1 o.2.1 (o.2.2 - o.2.1) && addB (L ++ [o]) I

theorem addB_append : ∀ (I L J : List (Nat × Nat × Nat)), addB L (I ++ J) = (addB L I && addB (L ++ I) J)
  | [], L, J => by simp [addB]
  | o :: I, L, J => by
    rw [List.cons_append, addB, addB, addB_append I (L ++ [o]) J, Bool.and_assoc, List.append_assoc]; rfl

theorem addB_ivs (L : List (Nat × Nat × Nat)) (s a n : Nat) : addB L (ivs s a n) = gatherB L s a n := by
  unfold ivs gatherB
  by_cases h : n = 0
  · simp [h, addB]
  · rw [if_neg h]; simp [addB, h]

def itemsL (ms : List (List Int)) (ks : List (Nat × Nat × Nat)) : List (Nat × Nat × Nat) := ks.flatMap fun k => itemsT ms k.1 k.2.1 k.2.2

/-- The pending pointers (levels left, segment, word) are good, and their intervals apart. -/
def FB (ms : List (List Int)) (L ks : List (Nat × Nat × Nat)) : Bool := (ks.all fun k => goodT ms k.1 k.2.1 k.2.2) && addB L (itemsL ms ks)

theorem itemsL_append (ms : List (List Int)) (ks js : List (Nat × Nat × Nat)) : itemsL ms (ks ++ js) = itemsL ms ks ++ itemsL ms js := by simp [itemsL]

theorem FB_append (ms : List (List Int)) (L ks js : List (Nat × Nat × Nat)) : FB ms L (ks ++ js) = (FB ms L ks && FB ms (L ++ itemsL ms ks) js) := by
  unfold FB
  rw [itemsL_append, addB_append, List.all_append]
  cases (ks.all fun k => goodT ms k.1 k.2.1 k.2.2) <;> cases (js.all fun k => goodT ms k.1 k.2.1 k.2.2) <;> cases addB L (itemsL ms ks) <;> simp

theorem FB_nil (ms : List (List Int)) (L : List (Nat × Nat × Nat)) : FB ms L [] = true := by simp [FB, itemsL, addB]

/-- The kids of an object, as pending pointers. -/
def kidsN (p : Sp) (l : Nat) : List (Nat × Nat × Nat) := (kidsP p.pt).map fun k => (l, p.seg.toNat, k)

theorem FB_none {ms : List (List Int)} {s i : Nat} (h : resolveB ms s i = none) (L : List (Nat × Nat × Nat)) (l : Nat) : FB ms L [(l, s, i)] = false := by
  cases l <;> simp [FB, goodT, h]

theorem FB_null {ms : List (List Int)} {s i : Nat} {p : Sp} (h : resolveB ms s i = some p) (hk : p.pt.kind = 0) (L : List (Nat × Nat × Nat)) (l : Nat) : FB ms L [(l, s, i)] = true ∧ itemsL ms [(l, s, i)] = [] := by
  cases l <;> simp [FB, goodT, itemsL, itemsT, h, hk, addB]

theorem FB_deep {ms : List (List Int)} {s i : Nat} {p : Sp} (h : resolveB ms s i = some p) (hk : p.pt.kind ≠ 0) (L : List (Nat × Nat × Nat)) : FB ms L [(0, s, i)] = false := by
  simp [FB, goodT, h, hk]

theorem items_node {ms : List (List Int)} {s i : Nat} {p : Sp} (h : resolveB ms s i = some p) (hk : p.pt.kind ≠ 0) (l : Nat) : itemsL ms [(l + 1, s, i)] = ownIvs p ++ itemsL ms (kidsN p l) := by
  simp [itemsL, itemsT, h, hk, kidsN, List.flatMap_map]

theorem FB_node {ms : List (List Int)} {s i : Nat} {p : Sp} (h : resolveB ms s i = some p) (hk : p.pt.kind ≠ 0) (L : List (Nat × Nat × Nat)) (l : Nat) :
    FB ms L [(l + 1, s, i)] = (addB L (ownIvs p) && (paddedOf (ms.getD p.seg.toNat []) p.pt && FB ms (L ++ ownIvs p) (kidsN p l))) := by
  have e : FB ms L [(l + 1, s, i)] = ((paddedOf (ms.getD p.seg.toNat []) p.pt && (kidsP p.pt).all fun k => goodT ms l p.seg.toNat k) && addB L (itemsL ms [(l + 1, s, i)])) := by
    have hk' : (p.pt.kind == 0) = false := by simp [hk]
    simp [FB, goodT, h, hk']
  rw [e, items_node h hk, addB_append]
  unfold FB
  have e2 : ((kidsN p l).all fun k => goodT ms k.1 k.2.1 k.2.2) = (kidsP p.pt).all fun k => goodT ms l p.seg.toNat k := by simp [kidsN, List.all_map]; rfl
  rw [e2]
  cases paddedOf (ms.getD p.seg.toNat []) p.pt <;> cases ((kidsP p.pt).all fun k => goodT ms l p.seg.toNat k) <;> cases addB L (ownIvs p) <;> simp

theorem own_add (L : List (Nat × Nat × Nat)) (p : Sp) : addB L (ownIvs p) = (gatherB L p.pseg.toNat p.pat.toNat p.pwords.toNat && gatherB (L ++ ivs p.pseg.toNat p.pat.toNat p.pwords.toNat) p.seg.toNat (firstOf p.pt).toNat (wordsOf p.pt).toNat) := by
  unfold ownIvs
  rw [addB_append, addB_ivs, addB_ivs]
end Go.Proofs.Ygcfag
