/-
  WHAT ALL WALKS OF THIS SEAT SHARE: how a slice reads; numbers by bits.
-/
import Derived.Test.YgcfagProg
import Derived.Test.YgcfagPlain
import Derived.WalkKit
import Derived.WalkLawsBesides
import Derived.BigQuiet
import Derived.Deep.RegionWith
namespace Go.Proofs.Ygcfag
open Go.RowKit
set_option linter.unusedVariables false
set_option linter.unusedSimpArgs false

/-- The slice at 'a' reads the numbers 'xs' of kind 'k' in 'w'. -/
def Sl (k : IntKind) (w : World) (a : Option Addr) (xs : List Int) : Prop :=
  xs = [] ∨ ∃ b off, a = some ⟨b, off, none⟩ ∧ ∀ i, i < xs.length → w.cell? ⟨b, off + i, none⟩ = some (.int k (xs.getD i 0))

theorem Sl.at {k : IntKind} {w : World} {a : Option Addr} {xs : List Int} (h : Sl k w a xs) {i : Nat} (hi : i < xs.length) :
    ∃ b off, a = some ⟨b, off, none⟩ ∧ ∀ i, i < xs.length → w.cell? ⟨b, off + i, none⟩ = some (.int k (xs.getD i 0)) := by
  rcases h with rfl | h
  · simp at hi
  · exact h

theorem Sl.nil (k : IntKind) (w : World) (a : Option Addr) : Sl k w a [] := .inl rfl

/-- It reads on in a later world. -/
theorem Sl.below {k : IntKind} {w w' : World} {a : Option Addr} {xs : List Int} (h : Sl k w a xs) (hb : Below w.heap.size w w') : Sl k w' a xs := by
  rcases h with rfl | ⟨b, off, rfl, hc⟩
  · exact .inl rfl
  · refine .inr ⟨b, off, rfl, fun i hi => ?_⟩
    rw [hb.cell (p := ⟨b, off + i, none⟩) (World.block_lt_of_cell? w ⟨b, off + i, none⟩ (hc i hi))]
    exact hc i hi

theorem Sl.drewN {k : IntKind} {w : World} {a : Option Addr} {xs : List Int} (h : Sl k w a xs) (n : Nat) : Sl k (w.drewN n) a xs := by
  rcases h with rfl | ⟨b, off, rfl, hc⟩
  · exact .inl rfl
  · exact .inr ⟨b, off, rfl, fun i hi => by simpa using hc i hi⟩

/-- The first m of them. -/
theorem Sl.take {k : IntKind} {w : World} {a : Option Addr} {xs : List Int} (h : Sl k w a xs) (m : Nat) : Sl k w a (xs.take m) := by
  rcases h with rfl | ⟨b, off, rfl, hc⟩
  · exact .inl (by simp)
  · refine .inr ⟨b, off, rfl, fun i hi => ?_⟩
    simp only [List.length_take] at hi
    rw [hc i (by omega)]
    simp [List.getD, List.getElem?_take, show i < m by omega]

/-- Those from m on: at the address that Go gives them. -/
theorem Sl.drop {k : IntKind} {w : World} {a : Option Addr} {xs : List Int} (h : Sl k w a xs) (m c : Nat) (hc : xs.length ≤ c) :
    Sl k w (if c = m then a else a.map (·.add m)) (xs.drop m) := by
  by_cases hm : m < xs.length
  · obtain ⟨b, off, rfl, hcell⟩ := h.at hm
    rw [if_neg (by omega)]
    refine .inr ⟨b, off + m, ?_, fun i hi => ?_⟩
    · simp [Addr.add_lit]
    · simp only [List.length_drop] at hi
      rw [Nat.add_assoc, hcell (m + i) (by omega)]
      simp [List.getD]
  · exact .inl (by simp; omega)

/-- '[8]byte(b[i:j])'. -/
theorem run_arrayAt8 (a : Option Addr) (c : Nat) (w : World) : (Instr.arrayAt 225 (.slice a 8 c)).run Fagg.prog w = .ok (.pointer a) w := by
  simp [Instr.arrayAt, run_underlying Fagg.underlying225]

/-- A later world: all that was there when 'w' stood is as it was. -/
structure Later (w : World) where
  u : World
  h : Below w.heap.size w u

theorem Later.cell {w : World} (l : Later w) {p : Addr} (h : p.block < w.heap.size) : l.u.cell? p = w.cell? p := l.h.cell h

/-- A region that draws its order, whose own operations only read and whose callees read and make memory: one walk, in the text's order. -/
theorem wp_region_later {P : Program} {id : Nat} {Q : Exit → Act → World → Prop} {a : Act} {w : World} {l : List Oper} (hm : P.follows .mixedOrders = true) (hB : Region.lexB .any l.toArray = true)
    (h : Nonempty (Later w) → wpQuiet P l.toArray (fun w' => ∃ u : Later w, w' = u.u) (fun a' => ∀ w', (∃ u : Later w, w' = u.u) → Q .normal a' w') l a) : (Code.region id l.toArray true).wp P Q a w :=
  wp_region_quiet (C := fun w' => ∃ u : Later w, w' = u.u) hm hB ⟨⟨w.drew, (Below.refl _ _).drew⟩, rfl⟩ (by simpa using h ⟨⟨w, Below.refl _ _⟩⟩)

theorem drewN_below (w : World) (n : Nat) : Below w.heap.size w (w.drewN n) := ⟨rfl, rfl, rfl, Nat.le_refl _, fun _ _ => rfl⟩

/-- A callee's contract, met in a later world. -/
theorem Calls.later {P : Program} {f : FuncId} {args : Array Value} {w : World} {l : Later w} {v : Value}
    (h : Calls P f args l.u fun e w' => e = .returned v ∧ Below l.u.heap.size l.u w') : Calls P f args l.u fun e w'' => e = .returned v ∧ ∃ u : Later w, w'' = u.u :=
  h.mono fun _ w'' ⟨he, hb⟩ => ⟨he, ⟨w'', l.h.trans (hb.mono l.h.size)⟩, rfl⟩

theorem info32 : (Fagg.prog.info? 32).map (fun i => (i.zero, i.size, i.bytes)) = some (some (.int .u64 0), 1, 8) := by kernel_rfl
theorem info5 : (Fagg.prog.info? 5).map (fun i => (i.zero, i.size, i.bytes)) = some (some (.int .u8 0), 1, 1) := by kernel_rfl
theorem info44 : (Fagg.prog.info? 44).map (fun i => (i.zero, i.size, i.bytes)) = some (some (.slice none 0 0), 1, 24) := by kernel_rfl

/-- The one cell of a new block. -/
theorem one_new (w : World) (x : Value) (e : TypeId) : ∀ (j : Nat) (u : Value), [x][j]? = some u → (w.alloc (.cells #[x] e)).cell? ((⟨w.heap.size, 0, none⟩ : Addr).add j) = some u := by
  intro j u hj
  match j, hj with
  | 0, hj => simp at hj; subst hj; simp [Addr.add]

theorem one_cell {x : Value} (h : x.oneCell' = true) : ∀ u ∈ [x], u.oneCell' = true := by
  intro u hu; simp at hu; subst hu; exact h

/-- What is owned is a slice of so many. -/
theorem own_form {w : World} {base : Nat} {e : TypeId} {size : Nat} {v : Value} {n : Nat} {xs : List Value} (h : w.ownsRow base e size v n xs) : ∃ a c, v = .slice a n c := by
  rcases h.2 with ⟨rfl, rfl⟩ | ⟨g, cap, cur, rfl, _⟩
  · exact ⟨_, _, rfl⟩
  · exact ⟨_, _, rfl⟩

theorem bcell {W w1 : World} (hb : Below W.heap.size W w1) : (∀ b o, b < W.heap.size → w1.cell? ⟨b, o, none⟩ = W.cell? ⟨b, o, none⟩) ∧ (∀ b o, b < W.heap.size → w1.frozen? ⟨b, o, none⟩ = W.frozen? ⟨b, o, none⟩) :=
  ⟨fun b o h => hb.cell (p := ⟨b, o, none⟩) h, fun b o h => hb.frozen (p := ⟨b, o, none⟩) h⟩

theorem hide {p : Prop} (h : p) : Hid p := h
theorem unhide {p : Prop} (h : Hid p) : p := h

theorem ret_int {k : IntKind} {a b : Int} (h : a = b) : Ending.returned (.int k a) = .returned (.int k b) := by rw [h]

theorem or_join (a b : Int) (i : Nat) (ha : 0 ≤ a) (ha' : a < 18446744073709551616) (hb : 0 ≤ b) (hb' : b < 18446744073709551616) (hd : a % (2 ^ i : Nat) = 0) (hl : b < (2 ^ i : Nat)) : bits .or .u64 a b = a + b := by
  rw [u64_or a b ha ha' hb hb', nat_join i]
  · omega
  · have : ((a.toNat % 2 ^ i : Nat) : Int) = 0 := by
      rw [Int.natCast_emod, Int.toNat_of_nonneg ha]; exact hd
    omega
  · omega

end Go.Proofs.Ygcfag
