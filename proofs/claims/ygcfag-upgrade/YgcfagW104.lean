/-
  WALKS: codec.Canon: how it begins.
-/
import Derived.Test.YgcfagW103
namespace Go.Proofs.Ygcfag
open Go.RowKit
set_option linter.unusedVariables false
set_option linter.unusedSimpArgs false

def stk0 : List Value := (List.replicate 512 [Value.int .u16 0, Value.int .i16 0]).flatten
def canCs (p s : Value) : List Value := [p, s] ++ stk0 ++ [.int .i64 0]
theorem stk0_len : stk0.length = 1024 := by
  unfold stk0
  simp only [List.length_replicate, List.length_flatten, List.map_replicate, List.length_cons, List.length_nil, List.sum_replicate_nat]
theorem canCs_len (p s : Value) : (canCs p s).length = 1027 := by
  unfold canCs
  simp only [List.length_append, stk0_len, List.length_cons, List.length_nil]
theorem info194 : (Fagg.prog.info? 194).map (fun i => i.zero) = some (some (.agg (canCs (.pointer none) (.slice none 0 0)).toArray)) := by kernel_rfl
theorem size194 : (Fagg.prog.info? 194).map (·.size) = some 1027 := by kernel_rfl
theorem built194 (O G : Nat) : Fagg.prog.built 194 [(0, .pointer (some ⟨O, 0, none⟩)), (1, .slice (some ⟨G, 0, none⟩) 1 16)] = some (canCs (.pointer (some ⟨O, 0, none⟩)) (.slice (some ⟨G, 0, none⟩) 1 16)).toArray := by kernel_rfl
theorem canCs_one (O G : Nat) : ∀ v ∈ canCs (.pointer (some ⟨O, 0, none⟩)) (.slice (some ⟨G, 0, none⟩) 1 16), v.oneCell' = true := by
  intro v hv
  unfold canCs stk0 at hv
  simp only [List.mem_append, List.mem_replicate, List.mem_flatten, List.mem_cons, List.not_mem_nil, or_false] at hv
  rcases hv with ((rfl | rfl) | ⟨l, ⟨_, rfl⟩, hv⟩) | rfl
  · rfl
  · rfl
  · simp at hv; rcases hv with rfl | rfl <;> rfl
  · rfl

theorem wp_alloc_big {t : TypeId} {Z : Array Value} (hz : (Fagg.prog.info? t).map (fun i => i.zero) = some (some (.agg Z))) {o : Oper} {a : Act} {w : World} {K : Act → World → Prop} {Q : Exit → Act → World → Prop} (ho : o.op = .alloc t)
    (h : K (a.put o.dst (.pointer (some ⟨w.heap.size, 0, none⟩))) (w.alloc (.cells Z t))) : o.wp Fagg.prog a w K Q := by
  have hrun : (Instr.alloc t true (.tuple #[])).run Fagg.prog w = .ok (.pointer (some ⟨w.heap.size, 0, none⟩)) (w.alloc (.cells Z t)) := by
    obtain ⟨i, hi, hz⟩ : ∃ i, Fagg.prog.info? t = some i ∧ i.zero = some (.agg Z) := by
      cases hh : Fagg.prog.info? t with
      | none => rw [hh] at hz; cases hz
      | some i => rw [hh] at hz; exact ⟨i, rfl, Option.some.inj hz⟩
    unfold Instr.alloc
    simp [go_sem, zeroValue, typeInfo, hi, hz, newVar]
  unfold Oper.wp execOp
  simp only [ho, Sem.run_bind, Sem.run_pure, Result.andThen_ok, hrun]
  exact h
theorem wp_built {t : TypeId} {cells : Array Value} {o : Oper} {a : Act} {w : World} {K : Act → World → Prop} {Q : Exit → Act → World → Prop} (parts : Array (Nat × Operand)) (ho : o.op = .build t parts)
    (hb : Fagg.prog.built t (parts.map fun (i, x) => (i, a.eval x)).toList = some cells)
    (h : K (a.put o.dst (.agg cells)) w) : o.wp Fagg.prog a w K Q := by
  refine wp_build t parts ho (by rw [hb]; rfl) ?_
  rw [hb]; exact h

/-- What Canon's first statement has laid so far, in whatever order. -/
structure CSt (w0 w : World) (c g : Option Nat) (r : Option (Nat × Nat × Option Addr × Nat)) (t : Nat) (zs : List Int) : Prop where
  bel : Below w0.heap.size w0 w
  cc : ∀ C, c = some C → w0.heap.size ≤ C ∧ C < w.heap.size ∧ w.there C 0 1027
  gg : ∀ G, g = some G → w.ownsRow w0.heap.size 32 1 (.slice (some ⟨G, 0, none⟩) 1 16) 1 [.int .u64 0]
  rr : ∀ O N A c', r = some (O, N, A, c') → TreeAt w O N 1 A t c' zs ∧ FreshT w0.heap.size w O N A
  cg : ∀ C G, c = some C → g = some G → C ≠ G
  cr : ∀ C O N A c', c = some C → r = some (O, N, A, c') → C ≠ O ∧ C ≠ N ∧ ∀ x, A = some x → x.block ≠ C
  gr : ∀ G O N A c', g = some G → r = some (O, N, A, c') → G ≠ O ∧ G ≠ N ∧ ∀ x, A = some x → x.block ≠ G

theorem there_below {w w' : World} {C n : Nat} (h : w.there C 0 n) (hC : C < w.heap.size) (hb : Below w.heap.size w w') : w'.there C 0 n := fun j hj => by
  rw [hb.cell (p := ⟨C, 0 + j, none⟩) hC, hb.frozen (p := ⟨C, 0 + j, none⟩) hC]; exact h j hj
theorem FreshT.below {b O N : Nat} {A : Option Addr} {w w' : World} (h : FreshT b w O N A) (hb : w.heap.size ≤ w'.heap.size) : FreshT b w' O N A :=
  ⟨h.o, h.n, fun x hx => ⟨(h.a x hx).1, Nat.lt_of_lt_of_le (h.a x hx).2 hb⟩⟩

theorem CSt.below {w0 w w' : World} {c g : Option Nat} {r : Option (Nat × Nat × Option Addr × Nat)} {t : Nat} {zs : List Int} (h : CSt w0 w c g r t zs) (hb : Below w.heap.size w w') : CSt w0 w' c g r t zs :=
  ⟨h.bel.trans (hb.mono h.bel.size), fun C hC => ⟨(h.cc C hC).1, Nat.lt_of_lt_of_le (h.cc C hC).2.1 hb.size, there_below (h.cc C hC).2.2 (h.cc C hC).2.1 hb⟩, fun G hG => owns_below (h.gg G hG) hb, fun O N A c' hr => ⟨(h.rr O N A c' hr).1.below hb, (h.rr O N A c' hr).2.below hb.size⟩, h.cg, h.cr, h.gr⟩

theorem there_can (w : World) : (w.alloc (.cells (canCs (.pointer none) (.slice none 0 0)).toArray 194)).there w.heap.size 0 1027 := fun j hj => by
  rw [Nat.zero_add, cell_of_row _ _ j _ 194 (0, 0) (heap_alloc_new w _)]
  refine ⟨?_, by simp⟩
  have hz : j < (canCs (.pointer none) (.slice none 0 0)).length := by rw [canCs_len]; exact hj
  rw [List.getElem?_toArray, List.getElem?_eq_getElem hz]; rfl

theorem CSt.alloc {w0 w : World} {g : Option Nat} {r : Option (Nat × Nat × Option Addr × Nat)} {t : Nat} {zs : List Int} (h : CSt w0 w none g r t zs) : CSt w0 (w.alloc (.cells (canCs (.pointer none) (.slice none 0 0)).toArray 194)) (some w.heap.size) g r t zs := by
  have k := h.below ((Below.refl w.heap.size w).alloc (Nat.le_refl _) (.cells (canCs (.pointer none) (.slice none 0 0)).toArray 194))
  refine ⟨k.bel, fun C hC => ?_, k.gg, k.rr, fun C G hC hG => ?_, fun C O N A c' hC hr => ?_, k.gr⟩
  · cases hC; exact ⟨h.bel.size, by simp, there_can w⟩
  · cases hC; have := (h.gg G hG).lt G rfl; omega
  · cases hC
    have h1 := (h.rr O N A c' hr)
    have hO := World.block_lt_of_cell? w _ h1.1.n
    have hN := World.block_lt_of_cell? w _ h1.1.k0
    simp only at hO hN
    exact ⟨by omega, by omega, fun x hx => by have := h1.2.a x hx; omega⟩

theorem own16 (w : World) (b : Nat) (hb : b ≤ w.heap.size) : (w.alloc (.cells (List.replicate 16 (Value.int .u64 0)).toArray 32)).ownsRow b 32 1 (.slice (some ⟨w.heap.size, 0, none⟩) 1 16) 1 [.int .u64 0] :=
  ⟨rfl, .inr ⟨w.heap.size, 16, _, rfl, hb, heap_alloc_new w _, by omega, by unfold maxLen; omega, by simp, by rfl⟩⟩

theorem CSt.make {w0 w : World} {c : Option Nat} {r : Option (Nat × Nat × Option Addr × Nat)} {t : Nat} {zs : List Int} (h : CSt w0 w c none r t zs) : CSt w0 (w.alloc (.cells (List.replicate 16 (Value.int .u64 0)).toArray 32)) c (some w.heap.size) r t zs := by
  have k := h.below ((Below.refl w.heap.size w).alloc (Nat.le_refl _) (.cells (List.replicate 16 (Value.int .u64 0)).toArray 32))
  refine ⟨k.bel, k.cc, fun G hG => ?_, k.rr, fun C G hC hG => ?_, k.cr, fun G O N A c' hC hr => ?_⟩
  · cases hG; exact own16 w _ h.bel.size
  · cases hG; have := (h.cc C hC).2.1; omega
  · cases hC
    have h1 := (h.rr O N A c' hr)
    have hO := World.block_lt_of_cell? w _ h1.1.n
    have hN := World.block_lt_of_cell? w _ h1.1.k0
    simp only at hO hN
    exact ⟨by omega, by omega, fun x hx => by have := h1.2.a x hx; omega⟩

theorem CSt.call {w0 w w' : World} {c g : Option Nat} {t : Nat} {zs : List Int} (h : CSt w0 w c g none t zs) (hb : Below w.heap.size w w') (O N : Nat) (A : Option Addr) (c' : Nat) (ht : TreeAt w' O N 1 A t c' zs) (hf : FreshT w.heap.size w' O N A) : CSt w0 w' c g (some (O, N, A, c')) t zs := by
  have k := h.below hb
  have hs := h.bel.size
  refine ⟨k.bel, k.cc, k.gg, fun O' N' A' c'' hr => ?_, k.cg, fun C O' N' A' c'' hC hr => ?_, fun G O' N' A' c'' hG hr => ?_⟩
  · cases hr; exact ⟨ht, ⟨Nat.le_trans hs hf.o, Nat.le_trans hs hf.n, fun x hx => ⟨Nat.le_trans hs (hf.a x hx).1, (hf.a x hx).2⟩⟩⟩
  · cases hr
    have h1 := (h.cc C hC).2.1
    have := hf.o; have := hf.n
    exact ⟨by omega, by omega, fun x hx => by have := hf.a x hx; omega⟩
  · cases hr
    have h1 := ((h.gg G hG).lt G rfl).2
    have := hf.o; have := hf.n
    exact ⟨by omega, by omega, fun x hx => by have := hf.a x hx; omega⟩

/-- Canon's state. -/
structure CanAt (w0 w : World) (C G O N : Nat) (A : Option Addr) (t c' capG : Nat) (zs arr : List Int) (nn : Int) : Prop where
  bel : Below w0.heap.size w0 w
  tr : TreeAt w O N 1 A t c' zs
  c0 : w.cell? ⟨C, 0, none⟩ = some (.pointer (some ⟨O, 0, none⟩))
  c1 : w.cell? ⟨C, 1, none⟩ = some (.slice (some ⟨G, 0, none⟩) arr.length capG)
  c2 : w.cell? ⟨C, 2, none⟩ = some (.int .u16 0)
  c3 : w.cell? ⟨C, 3, none⟩ = some (.int .i16 0)
  cn : w.cell? ⟨C, 1026, none⟩ = some (.int .i64 nn)
  fz : ∀ p, p < 1027 → w.frozen? ⟨C, p, none⟩ = false
  own : w.ownsRow w0.heap.size 32 1 (.slice (some ⟨G, 0, none⟩) arr.length capG) arr.length (arr.map (Value.int .u64))
  cb : w0.heap.size ≤ C
  cg : C ≠ G
  cr : C ≠ O ∧ C ≠ N ∧ ∀ x, A = some x → x.block ≠ C
  gr : G ≠ O ∧ G ≠ N ∧ ∀ x, A = some x → x.block ≠ G
  al : ∀ x, A = some x → x.block < w.heap.size

theorem TreeAt.other {w w' : World} {T B cap : Nat} {A : Option Addr} {d capd : Nat} {ys : List Int} (h : TreeAt w T B cap A d capd ys) (C : Nat) (hT : C ≠ T) (hB : C ≠ B) (hA : ∀ x, A = some x → x.block ≠ C) (hc : ∀ b p, b ≠ C → b < w.heap.size → w'.cell? ⟨b, p, none⟩ = w.cell? ⟨b, p, none⟩) : TreeAt w' T B cap A d capd ys := by
  have lT := World.block_lt_of_cell? w _ h.n
  have lB := World.block_lt_of_cell? w _ h.k0
  refine ⟨(hc _ _ (Ne.symm hT) lT).trans h.n, (hc _ _ (Ne.symm hT) lT).trans h.r, (hc _ _ (Ne.symm hB) lB).trans h.k0, (hc _ _ (Ne.symm hB) lB).trans h.k1, (hc _ _ (Ne.symm hB) lB).trans h.k2, (hc _ _ (Ne.symm hB) lB).trans h.k3, ?_, h.len⟩
  rcases h.dat with h0 | ⟨b, o, ha, hcell⟩
  · exact .inl h0
  · refine .inr ⟨b, o, ha, fun i hi => ?_⟩
    rw [hc b (o + i) (hA _ ha) (World.block_lt_of_cell? w _ (hcell i hi))]; exact hcell i hi

theorem cell_setCells_other (C : Nat) : ∀ (vs : List Value) (o : Nat) (w : World) (b p : Nat), b ≠ C → (w.setCells C o vs).cell? ⟨b, p, none⟩ = w.cell? ⟨b, p, none⟩
  | [], o, w, b, p, h => by simp [World.setCells]
  | v :: vs, o, w, b, p, h => (cell_setCells_other C vs (o + 1) (w.setCell ⟨C, o, none⟩ v) b p h).trans (World.cell?_setCell_other _ _ _ _ (fun e => by simp only [Addr.mk.injEq] at e; exact h e.1.symm))
theorem owns_setCells_other {base : Nat} {e : TypeId} {k : Nat} {v : Value} {n : Nat} {xs : List Value} (C : Nat) (hC : v.ownBlock ≠ some C) : ∀ (vs : List Value) (o : Nat) (w : World), w.ownsRow base e k v n xs → (w.setCells C o vs).ownsRow base e k v n xs
  | [], o, w, h => by simpa [World.setCells] using h
  | x :: vs, o, w, h => owns_setCells_other C hC vs (o + 1) (w.setCell ⟨C, o, none⟩ x) (ownsRow_setCell_other h hC _)
theorem size_setCells (C : Nat) : ∀ (vs : List Value) (o : Nat) (w : World), (w.setCells C o vs).heap.size = w.heap.size
  | [], o, w => by simp [World.setCells]
  | x :: vs, o, w => (size_setCells C vs (o + 1) (w.setCell ⟨C, o, none⟩ x)).trans (by simp)

theorem can_begin {w0 w : World} {C G O N c' t : Nat} {A : Option Addr} {zs : List Int} (h : CSt w0 w (some C) (some G) (some (O, N, A, c')) t zs) : CanAt w0 (w.setCells C 0 (canCs (.pointer (some ⟨O, 0, none⟩)) (.slice (some ⟨G, 0, none⟩) 1 16))) C G O N A t c' 16 zs [0] 0 := by
  obtain ⟨hwC, hCw, hth⟩ := h.cc C rfl
  obtain ⟨htr, hft⟩ := h.rr O N A c' rfl
  have hr := World.rangeAt_setCells_same w C 0 (canCs (.pointer (some ⟨O, 0, none⟩)) (.slice (some ⟨G, 0, none⟩) 1 16)) (by rw [canCs_len]; exact hth)
  have hc : ∀ j v, (canCs (.pointer (some ⟨O, 0, none⟩)) (.slice (some ⟨G, 0, none⟩) 1 16))[j]? = some v → (w.setCells C 0 (canCs (.pointer (some ⟨O, 0, none⟩)) (.slice (some ⟨G, 0, none⟩) 1 16))).cell? ⟨C, j, none⟩ = some v := fun j v hj => by
    have := hr j v hj
    rwa [Nat.zero_add] at this
  have hl : (canCs (.pointer (some ⟨O, 0, none⟩)) (.slice (some ⟨G, 0, none⟩) 1 16))[1026]? = some (.int .i64 0) := by
    unfold canCs
    rw [List.getElem?_append_right (by simp [stk0_len])]
    simp [stk0_len]
  obtain ⟨c1, c2, c3⟩ := h.cr C O N A c' rfl rfl
  refine ⟨below_setCells _ _ _ _ h.bel hwC, htr.other C c1 c2 c3 (fun b p hb _ => cell_setCells_other C _ _ _ _ _ hb), hc 0 _ rfl, hc 1 _ rfl, hc 2 _ rfl, hc 3 _ rfl, hc 1026 _ hl, fun p hp => ?_, ?_, hwC, h.cg C G rfl rfl, ⟨c1, c2, c3⟩, h.gr G O N A c' rfl rfl, fun x hx => ?_⟩
  · rw [World.frozen?_setCells]; have := (hth p hp).2; rwa [Nat.zero_add] at this
  · exact owns_setCells_other C (by simp [Value.ownBlock]; exact Ne.symm (h.cg C G rfl rfl)) _ _ _ (h.gg G rfl)
  · rw [size_setCells]; exact (hft.a x hx).2
end Go.Proofs.Ygcfag
