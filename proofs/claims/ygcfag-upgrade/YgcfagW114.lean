/-
  WALKS: the builder's setData.
-/
import Derived.Test.YgcfagW113
namespace Go.Proofs.Ygcfag
open Go.RowKit
set_option linter.unusedVariables false
set_option linter.unusedSimpArgs false

def valsN (l : List Nat) : List Value := l.map (fun (x : Nat) => Value.int .u64 (x : Int))
theorem valsN_len (l : List Nat) : (valsN l).length = l.length := by simp [valsN]
theorem valsN_get (l : List Nat) (j : Nat) (hj : j < l.length) : (valsN l)[j]? = some (.int .u64 ((l.getD j 0 : Nat) : Int)) := by
  simp [valsN, List.getElem?_map, List.getElem?_eq_getElem hj, List.getD_eq_getElem?_getD]
theorem valsN_set (l : List Nat) (j x : Nat) : (valsN l).set j (.int .u64 (x : Int)) = valsN (l.set j x) := by
  simp [valsN, List.map_set]
theorem held_sd {B O g : Nat} {u : World} {x0 x1 x2 x3 x4 x5 x6 x7 : Value} (h0 : u.cell? ⟨B, 5, none⟩ = some x0) (h1 : u.cell? ⟨O, 1, none⟩ = some x1) (h2 : u.cell? ⟨g, 6, none⟩ = some x2) (h3 : u.cell? ⟨g, 7, none⟩ = some x3) (h4 : u.cell? ⟨g, 8, none⟩ = some x4) (h5 : u.cell? ⟨g, 9, none⟩ = some x5) (h6 : u.cell? ⟨g, 10, none⟩ = some x6) (h7 : u.cell? ⟨g, 11, none⟩ = some x7) : u.drew.cell? ⟨B, 5, none⟩ = some x0 ∧ u.drew.cell? ⟨O, 1, none⟩ = some x1 ∧ u.drew.cell? ⟨g, 6, none⟩ = some x2 ∧ u.drew.cell? ⟨g, 7, none⟩ = some x3 ∧ u.drew.cell? ⟨g, 8, none⟩ = some x4 ∧ u.drew.cell? ⟨g, 9, none⟩ = some x5 ∧ u.drew.cell? ⟨g, 10, none⟩ = some x6 ∧ u.drew.cell? ⟨g, 11, none⟩ = some x7 := ⟨h0, h1, h2, h3, h4, h5, h6, h7⟩
theorem held_sda {B O g : Nat} {u : World} {x0 x1 x2 x3 x4 x5 x6 x7 : Value} (o : Obj) (h : u.cell? ⟨B, 5, none⟩ = some x0 ∧ u.cell? ⟨O, 1, none⟩ = some x1 ∧ u.cell? ⟨g, 6, none⟩ = some x2 ∧ u.cell? ⟨g, 7, none⟩ = some x3 ∧ u.cell? ⟨g, 8, none⟩ = some x4 ∧ u.cell? ⟨g, 9, none⟩ = some x5 ∧ u.cell? ⟨g, 10, none⟩ = some x6 ∧ u.cell? ⟨g, 11, none⟩ = some x7) : (u.alloc o).cell? ⟨B, 5, none⟩ = some x0 ∧ (u.alloc o).cell? ⟨O, 1, none⟩ = some x1 ∧ (u.alloc o).cell? ⟨g, 6, none⟩ = some x2 ∧ (u.alloc o).cell? ⟨g, 7, none⟩ = some x3 ∧ (u.alloc o).cell? ⟨g, 8, none⟩ = some x4 ∧ (u.alloc o).cell? ⟨g, 9, none⟩ = some x5 ∧ (u.alloc o).cell? ⟨g, 10, none⟩ = some x6 ∧ (u.alloc o).cell? ⟨g, 11, none⟩ = some x7 := ⟨(World.cell?_alloc_some u ⟨B, 5, none⟩ _ (by rw [h.1]; rfl)).trans h.1, (World.cell?_alloc_some u ⟨O, 1, none⟩ _ (by rw [h.2.1]; rfl)).trans h.2.1, (World.cell?_alloc_some u ⟨g, 6, none⟩ _ (by rw [h.2.2.1]; rfl)).trans h.2.2.1, (World.cell?_alloc_some u ⟨g, 7, none⟩ _ (by rw [h.2.2.2.1]; rfl)).trans h.2.2.2.1, (World.cell?_alloc_some u ⟨g, 8, none⟩ _ (by rw [h.2.2.2.2.1]; rfl)).trans h.2.2.2.2.1, (World.cell?_alloc_some u ⟨g, 9, none⟩ _ (by rw [h.2.2.2.2.2.1]; rfl)).trans h.2.2.2.2.2.1, (World.cell?_alloc_some u ⟨g, 10, none⟩ _ (by rw [h.2.2.2.2.2.2.1]; rfl)).trans h.2.2.2.2.2.2.1, (World.cell?_alloc_some u ⟨g, 11, none⟩ _ (by rw [h.2.2.2.2.2.2.2]; rfl)).trans h.2.2.2.2.2.2.2⟩
theorem held_se {B O : Nat} {u : World} {x0 x1 x2 : Value} (h0 : u.cell? ⟨B, 0, none⟩ = some x0) (h1 : u.cell? ⟨O, 3, none⟩ = some x1) (h2 : u.cell? ⟨O, 6, none⟩ = some x2) : u.drew.cell? ⟨B, 0, none⟩ = some x0 ∧ u.drew.cell? ⟨O, 3, none⟩ = some x1 ∧ u.drew.cell? ⟨O, 6, none⟩ = some x2 := ⟨h0, h1, h2⟩
theorem held_ses {B O g p : Nat} {u : World} {x0 x1 x2 : Value} (r : Value) (n0 : g ≠ B) (n1 : g ≠ O) (h : u.cell? ⟨B, 0, none⟩ = some x0 ∧ u.cell? ⟨O, 3, none⟩ = some x1 ∧ u.cell? ⟨O, 6, none⟩ = some x2) : (u.setCell ⟨g, p, none⟩ r).cell? ⟨B, 0, none⟩ = some x0 ∧ (u.setCell ⟨g, p, none⟩ r).cell? ⟨O, 3, none⟩ = some x1 ∧ (u.setCell ⟨g, p, none⟩ r).cell? ⟨O, 6, none⟩ = some x2 := by
  have c : ∀ G q, g ≠ G → (u.setCell ⟨g, p, none⟩ r).cell? ⟨G, q, none⟩ = u.cell? ⟨G, q, none⟩ := fun G q hG => World.cell?_setCell_other _ _ _ _ (fun e => by simp only [Addr.mk.injEq] at e; exact hG e.1)
  exact ⟨(c _ _ n0).trans h.1, (c _ _ n1).trans h.2.1, (c _ _ n1).trans h.2.2⟩
abbrev o114_11 : Oper := { dst := some 73, op := Go.Op.load 32 (Go.Operand.tmp 72), type := 32, pos := "build.go:252", after := #[{ on := 10, ground := Go.Ground.data }], guard := none }
abbrev o114_20 : Oper := { dst := some 82, op := Go.Op.call { callee := Go.Callee.value (Go.Operand.func 168), args := #[Go.Operand.tmp 73, Go.Operand.tmp 75, Go.Operand.tmp 78, Go.Operand.tmp 81], argTypes := #[32, 32, 5, 5] }, type := 32, pos := "build.go:252", after := #[{ on := 11, ground := Go.Ground.data }, { on := 13, ground := Go.Ground.data }, { on := 16, ground := Go.Ground.data }, { on := 19, ground := Go.Ground.data }], guard := none }
abbrev o114_22 : Oper := { dst := none, op := Go.Op.store 32 (Go.Operand.tmp 83) (Go.Operand.tmp 82), type := 0, pos := "build.go:252", after := #[{ on := 21, ground := Go.Ground.data }, { on := 20, ground := Go.Ground.data }, { on := 20, ground := Go.Ground.chain }, { on := 0, ground := Go.Ground.phase }, { on := 1, ground := Go.Ground.phase }, { on := 2, ground := Go.Ground.phase }, { on := 3, ground := Go.Ground.phase }, { on := 4, ground := Go.Ground.phase }, { on := 5, ground := Go.Ground.phase }, { on := 6, ground := Go.Ground.phase }, { on := 7, ground := Go.Ground.phase }, { on := 8, ground := Go.Ground.phase }, { on := 9, ground := Go.Ground.phase }, { on := 10, ground := Go.Ground.phase }, { on := 11, ground := Go.Ground.phase }, { on := 12, ground := Go.Ground.phase }, { on := 13, ground := Go.Ground.phase }, { on := 14, ground := Go.Ground.phase }, { on := 15, ground := Go.Ground.phase }, { on := 16, ground := Go.Ground.phase }, { on := 17, ground := Go.Ground.phase }, { on := 18, ground := Go.Ground.phase }, { on := 19, ground := Go.Ground.phase }, { on := 20, ground := Go.Ground.phase }], guard := none }

theorem bit_eq {n sh dn : Nat} (hs : sh = 0 ∨ sh = 3 ∨ sh = 4 ∨ sh = 5 ∨ sh = 6) (hn : n * 2 ^ sh < 64 * dn) (hd : dn ≤ 8) : ((n : Int) % 4294967296 * 2 ^ min sh 32 % 4294967296) = ((n * 2 ^ sh : Nat) : Int) := by
  rcases hs with h | h | h | h | h <;> subst h <;> simp <;> omega

set_option maxHeartbeats 2000000 in
set_option maxRecDepth 100000 in
theorem setData_any {w0 w : World} {B : Nat} {a b c d e f : Value} {xu xv xp xd : List Value} {arr : List Nat} (dn : Nat) (h : BdAt w0 w B (st a b c d e f) (st (1 + dn) 2 2 2 2 2) (st (valsN arr) (ptCs pt00 ++ ptCs (newPt dn)) xu xv xp xd)) (hd : dn ≤ 8) (sh n v : Nat) (s : ByteArray) (hsh : sh = 0 ∨ sh = 3 ∨ sh = 4 ∨ sh = 5 ∨ sh = 6) (hn : n * 2 ^ sh < 64 * dn) (hv : v < 18446744073709551616) (hw : ∀ x ∈ arr, x < 18446744073709551616) :
    Calls Fagg.prog 132 #[.pointer (some ⟨B, 0, none⟩), .agg (opCs 3 1 0 (sh : Int) 0 (n : Int) (v : Int) s)] w fun ee w' => ee = .returned (.bool true) ∧ BdAt w0 w' B (st a b c d e f) (st (1 + dn) 2 2 2 2 2) (st (valsN (arr.set (1 + n * 2 ^ sh / 64) (putN (arr.getD (1 + n * 2 ^ sh / 64) 0) v (n * 2 ^ sh % 64) (2 ^ sh)))) (ptCs pt00 ++ ptCs (newPt dn)) xu xv xp xd) := by
  obtain ⟨g0, k0, e0, _, _⟩ := h.own0.form (show 0 < 1 + dn by omega)
  have e0' : a = .slice (some ⟨g0, 0, none⟩) (1 + dn) k0 := e0
  clear e0
  subst e0'
  obtain ⟨g1, k1, e1, _, hg1⟩ := h.own1.form (show 0 < 2 by omega)
  have e1' : b = .slice (some ⟨g1, 0, none⟩) 2 k1 := e1
  clear e1
  subst e1'
  have hlen : arr.length = 1 + dn := by
    have h1 := h.own0.1
    simp only [st] at h1
    rw [valsN_len] at h1
    omega
  have hlt : ∀ i, i < 6 → (st (.slice (some ⟨g0, 0, none⟩) (1 + dn) k0) (.slice (some ⟨g1, 0, none⟩) 2 k1) c d e f i).ownBlock ≠ some w.heap.size ∧ (st (.slice (some ⟨g0, 0, none⟩) (1 + dn) k0) (.slice (some ⟨g1, 0, none⟩) 2 k1) c d e f i).ownBlock ≠ some (w.heap.size + 1) := fun i hi => by
    constructor
    · intro e; have := ((h.own i hi).lt _ e).2; omega
    · intro e; have := ((h.own i hi).lt _ e).2; omega
  have hB := h.bl
  have HLT := hide hlt
  clear hlt
  have H := hide h
  clear h
  have HD := hide hd
  have HN := hide hn
  have HSH := hide hsh
  have HL := hide hlen
  clear hd hn hsh hlen
  go_enter Fagg.func132, Fagg.ntmps132
  refine wp_seq_k (fun K0 hK0 => ?_)
  have HC0 := hide hK0
  clear hK0
  go_wp2_with fail
  refine unhide HC0 _ _ ?_
  clear HC0
  refine gen_world _ (fun w' => Below w.heap.size w w' ∧ O8 w' w.heap.size 3 1 0 (sh : Int) 0 (n : Int) (v : Int) s ∧ w'.heap.size = w.heap.size + 1) ⟨(Below.refl _ _).alloc (Nat.le_refl _) _, o8_new _ _ _ _ _ _ _ _ _, by simp⟩ ?_
  rintro w1 ⟨hb1, ho1, hs1⟩
  have h1 := (unhide H).below hb1
  have q1 : w1.cell? ⟨B, 5, none⟩ = some (.slice (some ⟨g1, 0, none⟩) 2 k1) := h1.c1
  have o1 := ho1.c1
  have pc := h1.p6 (g := g1) (cap := k1) rfl (newPt dn) 1 (show 1 < 2 by omega) (fun j hj => by
    show (ptCs pt00 ++ ptCs (newPt dn))[6 * 1 + j]? = _
    rw [List.getElem?_append_right (by simp [ptCs])]
    simp [ptCs])
  obtain ⟨p0, p1, p2, p3, p4, p5⟩ := pc
  simp only [newPt, Nat.reduceMul, Nat.reduceAdd] at p0 p1 p2 p3 p4 p5
  have HHD := hide (held_sd q1 o1 p0 p1 p2 p3 p4 p5)
  have H1 := hide h1
  have HO1 := hide ho1
  have HNE : Hid (B ≠ w.heap.size ∧ B ≠ w.heap.size + 1) := hide (by omega)
  clear h1 ho1 hb1 H hB
  generalize hO : w.heap.size = O at *
  clear hO hg1
  refine wp_seq_k (fun K0 hK0 => ?_)
  have HC0 := hide hK0
  clear hK0
  go_wp2_with fail
  go_region_held2 (fun w' => w'.cell? ⟨B, 5, none⟩ = some (.slice (some ⟨g1, 0, none⟩) 2 k1) ∧ w'.cell? ⟨O, 1, none⟩ = some (.int .u8 1) ∧ w'.cell? ⟨g1, 6, none⟩ = some (.int .u8 1) ∧ w'.cell? ⟨g1, 7, none⟩ = some (.int .u16 1) ∧ w'.cell? ⟨g1, 8, none⟩ = some (.int .u8 (dn : Int)) ∧ w'.cell? ⟨g1, 9, none⟩ = some (.int .u8 0) ∧ w'.cell? ⟨g1, 10, none⟩ = some (.int .u8 0) ∧ w'.cell? ⟨g1, 11, none⟩ = some (.int .u16 0)) ((first | exact unhide HHD | exact held_sda _ (unhide HHD))) ((fail))
  refine unhide HC0 _ _ ?_
  clear HC0
  refine gen_world _ (fun w' => BdAt w0 w' B (st (.slice (some ⟨g0, 0, none⟩) (1 + dn) k0) (.slice (some ⟨g1, 0, none⟩) 2 k1) c d e f) (st (1 + dn) 2 2 2 2 2) (st (valsN arr) (ptCs pt00 ++ ptCs (newPt dn)) xu xv xp xd) ∧ O8 w' O 3 1 0 (sh : Int) 0 (n : Int) (v : Int) s ∧ P6 w' (O + 1) (newPt dn)) ⟨((unhide H1).alloc _).drew, (unhide HO1).below ((Below.refl _ _).alloc (Nat.le_refl _) _).drew, (by rw [← hs1]; exact ⟨by simp [newPt], by simp [newPt], by simp [newPt], by simp [newPt], by simp [newPt], by simp [newPt]⟩)⟩ ?_
  clear HHD q1 o1 p0 p1 p2 p3 p4 p5
  rintro w2 ⟨h2, o2, pp2⟩
  clear H1 HO1 hs1
  have H2 := hide h2
  have HO2 := hide o2
  have HP2 := hide pp2
  clear h2 o2 pp2
  have p0 := (unhide HP2).c0
  simp only [newPt] at p0
  have o3 := (unhide HO2).c3
  have b1 : decide ((6 : Int) < (sh : Int)) = false := decide_eq_false (by rcases unhide HSH with h | h | h | h | h <;> omega)
  have b2 : ((sh : Int) == 1) = false := by rcases unhide HSH with h | h | h | h | h <;> subst h <;> rfl
  have b3 : ((sh : Int) == 2) = false := by rcases unhide HSH with h | h | h | h | h <;> subst h <;> rfl
  have o5 := (unhide HO2).c5
  refine wp_seq_k (fun K0 hK0 => ?_)
  have HC0 := hide hK0
  clear hK0
  go_wp2_with fail
  refine unhide HC0 _ _ ?_
  clear HC0
  clear p0 b1 b2 b3
  refine wp_seq_k (fun K0 hK0 => ?_)
  have HC0 := hide hK0
  clear hK0
  go_wp2_with fail
  have eb : ((n : Int) % 4294967296 * 2 ^ min sh 32 % 4294967296) = ((n * 2 ^ sh : Nat) : Int) := bit_eq (unhide HSH) (unhide HN) (unhide HD)
  rw [eb]
  clear eb
  refine unhide HC0 _ _ ?_
  clear HC0
  have hbit : n * 2 ^ sh < 64 * dn := unhide HN
  have HPW : Hid (2 ^ sh ≤ 64 ∧ n * 2 ^ sh % 64 + 2 ^ sh ≤ 64) := hide (by
    rcases unhide HSH with h | h | h | h | h <;> subst h <;> constructor <;> omega)
  have h1sh : IntKind.u8.wrap (1 * 2 ^ min sh 8) = ((2 ^ sh : Nat) : Int) := by rcases unhide HSH with h | h | h | h | h <;> subst h <;> rfl
  generalize n * 2 ^ sh = bit at *
  have hd := unhide HD
  have p1 := (unhide HP2).c1
  have p2 := (unhide HP2).c2
  simp only [newPt] at p1 p2
  have q0 : w2.cell? ⟨B, 0, none⟩ = some (.slice (some ⟨g0, 0, none⟩) (1 + dn) k0) := (unhide H2).c0
  have ea : ((1 : Int) % 4294967296 + (bit : Int) / 64) % 4294967296 = ((1 + bit / 64 : Nat) : Int) := by omega
  have ea2 : (1 + (bit : Int) / 64) % 4294967296 = ((1 + bit / 64 : Nat) : Int) := by omega
  clear o3 o5
  refine wp_seq_k (fun K0 hK0 => ?_)
  have HC0 := hide hK0
  clear hK0
  go_wp2_with fail
  rw [show (1 + (bit : Int) / 64) = ((1 + bit / 64 : Nat) : Int) by omega]
  refine unhide HC0 _ _ ?_
  clear HC0
  clear p1 ea ea2
  have hA : 1 + bit / 64 < 1 + dn := by omega
  have HMO : Hid ((bit : Int) % 64 = ((bit % 64 : Nat) : Int)) := hide (by omega)
  generalize 1 + bit / 64 = A at *
  have e1 : (dn : Int) % 4294967296 = dn := by omega
  have e2 : (dn : Int) * 64 % 4294967296 = dn * 64 := by omega
  have e3 : decide ((dn : Int) * 64 ≤ bit) = false := decide_eq_false (by omega)
  have e4 : (1 + (dn : Int)) % 4294967296 = 1 + dn := by omega
  have e5 : ((1 + dn : Nat) : Int) % 4294967296 = ((1 + dn : Nat) : Int) := by omega
  have e6 : decide (1 + (dn : Int) ≤ (A : Int)) = false := decide_eq_false (by omega)
  have e7 : decide (((1 + dn : Nat) : Int) ≤ (A : Int)) = false := decide_eq_false (by omega)
  refine wp_seq_k (fun K0 hK0 => ?_)
  have HC0 := hide hK0
  clear hK0
  go_wp2_with fail
  refine unhide HC0 _ _ ?_
  clear HC0
  clear e1 e2 e3 e4 e5 e6 e7 p2 h1sh
  have es : IntKind.u8.wrap (2 ^ min sh 8) = ((2 ^ sh : Nat) : Int) := by rcases unhide HSH with h | h | h | h | h <;> subst h <;> rfl
  have hp2 := (unhide HPW).2
  have hmo := unhide HMO
  have hm64 : bit % 64 < 64 := by omega
  clear HPW HMO
  generalize bit % 64 = m at *
  generalize 2 ^ sh = P2 at *
  have hx : arr.getD A 0 < 18446744073709551616 := by
    rw [List.getD_eq_getElem?_getD]
    rcases hg : arr[A]? with _ | y
    · simp
    · exact hw y (List.mem_of_getElem? hg)
  have HPU := hide (fun W => put_any (arr.getD A 0) v m P2 W hx hv hp2 hm64)
  have o6 := (unhide HO2).c6
  have o3 := (unhide HO2).c3
  have wm : IntKind.u8.wrap (m : Int) = (m : Int) := by rw [IntKind.wrap_u8]; omega
  have own0 : w2.ownsRow w0.heap.size 32 1 (.slice (some ⟨g0, 0, none⟩) (1 + dn) k0) (1 + dn) (valsN arr) := (unhide H2).own0
  have x8 : w2.drew.cell? ⟨g0, A, none⟩ = some (.int .u64 ((arr.getD A 0 : Nat) : Int)) := (own0.cellAt A (by omega)).trans (valsN_get arr A (by rw [unhide HL]; omega))
  have xf : w2.drew.frozen? ⟨g0, A, none⟩ = false := own0.frozenAt A
  have hgB : g0 ≠ B := fun e => (unhide H2).nb 0 (by omega) (by simp [st, Value.ownBlock, e])
  have hgO : g0 ≠ O := fun e => (unhide HLT 0 (by omega)).1 (by simp [st, Value.ownBlock, e])
  have HSS := hide (held_se q0 o3 o6)
  have HFI := hide (fun (r : Nat) => ((unhide H2).store0 A (.int .u64 (r : Int))).1)
  generalize arr.getD A 0 = x at *
  generalize putN x v m P2 = r at *
  have HSE := hide (held_ses (p := A) (.int .u64 (r : Int)) hgB hgO (unhide HSS))
  have bA : (0 : Int) ≤ (A : Int) := by omega
  have bL : (A : Int) < 1 + (dn : Int) := by omega
  have bL2 : ¬ (1 + (dn : Int) ≤ (A : Int)) := by omega
  have hmo2 : (bit : Int).tmod 64 = (m : Int) := by rw [Int.tmod_eq_emod_of_nonneg (by omega)]; exact hmo
  clear own0 hd hbit hx hv hw hp2 hm64
  refine wp_seq_k (fun K0 hK0 => ?_)
  have HC0 := hide hK0
  clear hK0
  refine wp_region_held_drew (S := fun w' => w'.cell? ⟨B, 0, none⟩ = some (.slice (some ⟨g0, 0, none⟩) (1 + dn) k0) ∧ w'.cell? ⟨O, 3, none⟩ = some (.int .u8 (sh : Int)) ∧ w'.cell? ⟨O, 6, none⟩ = some (.int .u64 (v : Int))) (by kernel_rfl) (unhide HSS) (fun _ => ?_)
  refine wpAnyH_take (i := 0) (v := .pointer (some ⟨B, 0, none⟩)) rfl (by kernel_rfl) (by kernel_rfl) (by kernel_rfl) (fun _ _ _ h => h) (Or.inl ⟨by rfl, ?_⟩) (unhide HSS) ?_
  · intro W hW
    obtain ⟨hs0, hs3, hs6⟩ := hW
    go_simp
  try simp only [Act.put, List.setIfInBounds_toArray, List.set_cons_zero, List.set_cons_succ]
  refine wpAnyH_take (i := 1) (v := .pointer (some ⟨B, 0, none⟩)) rfl (by kernel_rfl) (by kernel_rfl) (by kernel_rfl) (fun _ _ _ h => h) (Or.inl ⟨by rfl, ?_⟩) (unhide HSS) ?_
  · intro W hW
    obtain ⟨hs0, hs3, hs6⟩ := hW
    go_simp
  try simp only [Act.put, List.setIfInBounds_toArray, List.set_cons_zero, List.set_cons_succ]
  refine wpAnyH_take (i := 2) (v := .pointer (some ⟨B, 0, none⟩)) rfl (by kernel_rfl) (by kernel_rfl) (by kernel_rfl) (fun _ _ _ h => h) (Or.inl ⟨by rfl, ?_⟩) (unhide HSS) ?_
  · intro W hW
    obtain ⟨hs0, hs3, hs6⟩ := hW
    go_simp
  try simp only [Act.put, List.setIfInBounds_toArray, List.set_cons_zero, List.set_cons_succ]
  refine wpAnyH_take (i := 3) (v := .slice (some ⟨g0, 0, none⟩) (1 + dn) k0) rfl (by kernel_rfl) (by kernel_rfl) (by kernel_rfl) (fun _ _ _ h => h) (Or.inl ⟨by rfl, ?_⟩) (unhide HSS) ?_
  · intro W hW
    obtain ⟨hs0, hs3, hs6⟩ := hW
    go_simp
  try simp only [Act.put, List.setIfInBounds_toArray, List.set_cons_zero, List.set_cons_succ]
  refine wpAnyH_take (i := 4) (v := .int .u32 (A : Int)) rfl (by kernel_rfl) (by kernel_rfl) (by kernel_rfl) (fun _ _ _ h => h) (Or.inl ⟨by rfl, ?_⟩) (unhide HSS) ?_
  · intro W hW
    obtain ⟨hs0, hs3, hs6⟩ := hW
    go_simp
  try simp only [Act.put, List.setIfInBounds_toArray, List.set_cons_zero, List.set_cons_succ]
  refine wpAnyH_take (i := 5) (v := .pointer (some ⟨B, 0, none⟩)) rfl (by kernel_rfl) (by kernel_rfl) (by kernel_rfl) (fun _ _ _ h => h) (Or.inl ⟨by rfl, ?_⟩) (unhide HSS) ?_
  · intro W hW
    obtain ⟨hs0, hs3, hs6⟩ := hW
    go_simp
  try simp only [Act.put, List.setIfInBounds_toArray, List.set_cons_zero, List.set_cons_succ]
  refine wpAnyH_take (i := 6) (v := .pointer (some ⟨B, 0, none⟩)) rfl (by kernel_rfl) (by kernel_rfl) (by kernel_rfl) (fun _ _ _ h => h) (Or.inl ⟨by rfl, ?_⟩) (unhide HSS) ?_
  · intro W hW
    obtain ⟨hs0, hs3, hs6⟩ := hW
    go_simp
  try simp only [Act.put, List.setIfInBounds_toArray, List.set_cons_zero, List.set_cons_succ]
  refine wpAnyH_take (i := 7) (v := .pointer (some ⟨B, 0, none⟩)) rfl (by kernel_rfl) (by kernel_rfl) (by kernel_rfl) (fun _ _ _ h => h) (Or.inl ⟨by rfl, ?_⟩) (unhide HSS) ?_
  · intro W hW
    obtain ⟨hs0, hs3, hs6⟩ := hW
    go_simp
  try simp only [Act.put, List.setIfInBounds_toArray, List.set_cons_zero, List.set_cons_succ]
  refine wpAnyH_take (i := 8) (v := .slice (some ⟨g0, 0, none⟩) (1 + dn) k0) rfl (by kernel_rfl) (by kernel_rfl) (by kernel_rfl) (fun _ _ _ h => h) (Or.inl ⟨by rfl, ?_⟩) (unhide HSS) ?_
  · intro W hW
    obtain ⟨hs0, hs3, hs6⟩ := hW
    go_simp
  try simp only [Act.put, List.setIfInBounds_toArray, List.set_cons_zero, List.set_cons_succ]
  refine wpAnyH_take (i := 9) (v := .int .u32 (A : Int)) rfl (by kernel_rfl) (by kernel_rfl) (by kernel_rfl) (fun _ _ _ h => h) (Or.inl ⟨by rfl, ?_⟩) (unhide HSS) ?_
  · intro W hW
    obtain ⟨hs0, hs3, hs6⟩ := hW
    go_simp
  try simp only [Act.put, List.setIfInBounds_toArray, List.set_cons_zero, List.set_cons_succ]
  refine wpAnyH_take (i := 10) (v := .pointer (some ⟨g0, A, none⟩)) rfl (by kernel_rfl) (by kernel_rfl) (by kernel_rfl) (fun _ _ _ h => h) (Or.inl ⟨by rfl, ?_⟩) (unhide HSS) ?_
  · intro W hW
    obtain ⟨hs0, hs3, hs6⟩ := hW
    go_simp
  try simp only [Act.put, List.setIfInBounds_toArray, List.set_cons_zero, List.set_cons_succ]
  refine wpAnyH_take (i := 12) (v := .pointer (some ⟨O, 6, none⟩)) rfl (by kernel_rfl) (by kernel_rfl) (by kernel_rfl) (fun _ _ _ h => h) (Or.inl ⟨by rfl, ?_⟩) (unhide HSS) ?_
  · intro W hW
    obtain ⟨hs0, hs3, hs6⟩ := hW
    go_simp
  try simp only [Act.put, List.setIfInBounds_toArray, List.set_cons_zero, List.set_cons_succ]
  refine wpAnyH_take (i := 13) (v := .int .u64 (v : Int)) rfl (by kernel_rfl) (by kernel_rfl) (by kernel_rfl) (fun _ _ _ h => h) (Or.inl ⟨by rfl, ?_⟩) (unhide HSS) ?_
  · intro W hW
    obtain ⟨hs0, hs3, hs6⟩ := hW
    go_simp
  try simp only [Act.put, List.setIfInBounds_toArray, List.set_cons_zero, List.set_cons_succ]
  refine wpAnyH_take (i := 14) (v := .int .u32 (bit : Int)) rfl (by kernel_rfl) (by kernel_rfl) (by kernel_rfl) (fun _ _ _ h => h) (Or.inl ⟨by rfl, ?_⟩) (unhide HSS) ?_
  · intro W hW
    obtain ⟨hs0, hs3, hs6⟩ := hW
    go_simp
  try simp only [Act.put, List.setIfInBounds_toArray, List.set_cons_zero, List.set_cons_succ]
  refine wpAnyH_take (i := 15) (v := .int .u32 (m : Int)) rfl (by kernel_rfl) (by kernel_rfl) (by kernel_rfl) (fun _ _ _ h => h) (Or.inl ⟨by rfl, ?_⟩) (unhide HSS) ?_
  · intro W hW
    obtain ⟨hs0, hs3, hs6⟩ := hW
    go_simp
  try simp only [Act.put, List.setIfInBounds_toArray, List.set_cons_zero, List.set_cons_succ]
  refine wpAnyH_take (i := 16) (v := .int .u8 (m : Int)) rfl (by kernel_rfl) (by kernel_rfl) (by kernel_rfl) (fun _ _ _ h => h) (Or.inl ⟨by rfl, ?_⟩) (unhide HSS) ?_
  · intro W hW
    obtain ⟨hs0, hs3, hs6⟩ := hW
    go_simp
  try simp only [Act.put, List.setIfInBounds_toArray, List.set_cons_zero, List.set_cons_succ]
  refine wpAnyH_take (i := 17) (v := .pointer (some ⟨O, 3, none⟩)) rfl (by kernel_rfl) (by kernel_rfl) (by kernel_rfl) (fun _ _ _ h => h) (Or.inl ⟨by rfl, ?_⟩) (unhide HSS) ?_
  · intro W hW
    obtain ⟨hs0, hs3, hs6⟩ := hW
    go_simp
  try simp only [Act.put, List.setIfInBounds_toArray, List.set_cons_zero, List.set_cons_succ]
  refine wpAnyH_take (i := 18) (v := .int .u8 (sh : Int)) rfl (by kernel_rfl) (by kernel_rfl) (by kernel_rfl) (fun _ _ _ h => h) (Or.inl ⟨by rfl, ?_⟩) (unhide HSS) ?_
  · intro W hW
    obtain ⟨hs0, hs3, hs6⟩ := hW
    go_simp
  try simp only [Act.put, List.setIfInBounds_toArray, List.set_cons_zero, List.set_cons_succ]
  refine wpAnyH_take (i := 19) (v := .int .u8 (P2 : Int)) rfl (by kernel_rfl) (by kernel_rfl) (by kernel_rfl) (fun _ _ _ h => h) (Or.inl ⟨by rfl, ?_⟩) (unhide HSS) ?_
  · intro W hW
    obtain ⟨hs0, hs3, hs6⟩ := hW
    go_simp
  try simp only [Act.put, List.setIfInBounds_toArray, List.set_cons_zero, List.set_cons_succ]
  refine wpAnyH_ready (rs := [11]) (by kernel_rfl) (by simp) ?_
  refine AllReadyH.cons (o := o114_11) rfl (fun K hK => ?_) AllReadyH.nil
  go_simp
  refine hK.out _ _ (unhide HSS) (fun _ => ?_)
  clear hK K
  try simp only [Act.put, List.setIfInBounds_toArray, List.set_cons_zero, List.set_cons_succ]
  refine wpAnyH_ready (rs := [20]) (by kernel_rfl) (by simp) ?_
  refine AllReadyH.cons (o := o114_20) rfl (fun K hK => ?_) AllReadyH.nil
  go_simp
  go_wp2_with (go_at_call 168; with_reducible refine (unhide HPU _).mono ?_; rintro ee w3 ⟨rfl, hw3⟩; subst hw3)
  refine hK.out _ _ (unhide HSS) (fun _ => ?_)
  clear hK K
  try simp only [Act.put, List.setIfInBounds_toArray, List.set_cons_zero, List.set_cons_succ]
  refine wpAnyH_take (i := 21) (v := .pointer (some ⟨g0, A, none⟩)) rfl (by kernel_rfl) (by kernel_rfl) (by kernel_rfl) (fun _ _ _ h => h) (Or.inl ⟨by rfl, ?_⟩) (unhide HSS) ?_
  · intro W hW
    obtain ⟨hs0, hs3, hs6⟩ := hW
    go_simp
  try simp only [Act.put, List.setIfInBounds_toArray, List.set_cons_zero, List.set_cons_succ]
  refine wpAnyH_ready (rs := [22]) (by kernel_rfl) (by simp) ?_
  refine AllReadyH.cons (o := o114_22) rfl (fun K hK => ?_) AllReadyH.nil
  go_simp
  refine hK.out _ _ (unhide HSE) (fun _ => ?_)
  clear hK K
  try simp only [Act.put, List.setIfInBounds_toArray, List.set_cons_zero, List.set_cons_succ]
  refine wpAnyH_done (by kernel_rfl) ?_ _
  refine unhide HC0 _ _ ?_
  clear HC0
  have hfin := unhide HFI r
  rw [valsN_set] at hfin
  have hfin2 := hfin.drew
  clear hfin
  have HFN := hide hfin2
  clear hfin2
  go_wp2_with fail
  go_ret
  exact ⟨rfl, unhide HFN⟩
end Go.Proofs.Ygcfag
