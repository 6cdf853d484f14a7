/-
  WALKS: the builder's Do.
-/
import Derived.Test.YgcfagW114
namespace Go.Proofs.Ygcfag
open Go.RowKit
set_option linter.unusedVariables false
set_option linter.unusedSimpArgs false

theorem held_do {B O g p : Nat} {u : World} {x0 x1 x2 x3 : Value} (h0 : u.cell? ⟨O, 1, none⟩ = some x0) (h1 : u.cell? ⟨B, 5, none⟩ = some x1) (h2 : u.cell? ⟨B, 9, none⟩ = some x2) (h3 : u.cell? ⟨g, p, none⟩ = some x3) : u.drew.cell? ⟨O, 1, none⟩ = some x0 ∧ u.drew.cell? ⟨B, 5, none⟩ = some x1 ∧ u.drew.cell? ⟨B, 9, none⟩ = some x2 ∧ u.drew.cell? ⟨g, p, none⟩ = some x3 := ⟨h0, h1, h2, h3⟩

set_option maxHeartbeats 2000000 in
set_option maxRecDepth 100000 in
theorem doNew_any {w0 w : World} {B : Nat} {a b c d e f : Value} {xu xv : List Value} (h : BdAt w0 w B (st a b c d e f) (st 1 1 1 1 1 1) (st [.int .u64 0] (ptCs pt00) xu xv [.int .u8 0] [.bool false])) (n v : Int) (s : ByteArray) (dn : Nat) (hd : dn ≤ 8) :
    Calls Fagg.prog 61 #[.pointer (some ⟨B, 0, none⟩), .agg (opCs 0 0 0 (dn : Int) 0 n v s)] w fun ee w' => ee = .returned (.bool true) ∧ ∃ a' b' c' d' e' f' xu' xv' xp', BdAt w0 w' B (st a' b' c' d' e' f') (st (1 + dn) 2 2 2 2 2) (st (.int .u64 (rootW dn : Int) :: List.replicate dn (.int .u64 0)) (ptCs pt00 ++ ptCs (newPt dn)) xu' xv' xp' [.bool false, .bool false]) := by
  obtain ⟨g1, k1, e1, _, _⟩ := h.own1.form (show 0 < 1 by omega)
  have e1' : b = .slice (some ⟨g1, 0, none⟩) 1 k1 := e1
  obtain ⟨g5, k5, e5, _, _⟩ := h.own5.form (show 0 < 1 by omega)
  have e5' : f = .slice (some ⟨g5, 0, none⟩) 1 k5 := e5
  clear e1 e5
  subst e1' e5'
  have HEV := hide (fun (W : World) (hW : Below w.heap.size w W) => even_any (h.below hW) (by omega) (by omega) (by omega) (by omega))
  have HCA := hide (fun (W : World) (hW : Below w.heap.size w W) => newStruct_any (h.below hW) n v s dn hd)
  have HB0 := hide (fun (W : World) (hW : Below w.heap.size w W) => h.below hW)
  have hB := h.bl
  clear h
  go_enter Fagg.func61, Fagg.ntmps61
  refine wp_seq_k (fun K0 hK0 => ?_)
  have HC0 := hide hK0
  clear hK0
  go_wp2_with fail
  refine unhide HC0 _ _ ?_
  clear HC0
  refine gen_world _ (fun w' => Below w.heap.size w w' ∧ O8 w' w.heap.size 0 0 0 (dn : Int) 0 n v s) ⟨(Below.refl _ _).alloc (Nat.le_refl _) _, o8_new _ _ _ _ _ _ _ _ _⟩ ?_
  rintro w1 ⟨hb1, ho1⟩
  have h1 := unhide HB0 w1 hb1
  have q1 : w1.cell? ⟨B, 5, none⟩ = some (.slice (some ⟨g1, 0, none⟩) 1 k1) := h1.c1
  have q5 : w1.cell? ⟨B, 9, none⟩ = some (.slice (some ⟨g5, 0, none⟩) 1 k5) := h1.c5
  have x5 : w1.cell? ⟨g5, 0, none⟩ = some (.bool false) := World.ownsRow.cellAt (show w1.ownsRow w0.heap.size 4 1 (.slice (some ⟨g5, 0, none⟩) 1 k5) 1 [.bool false] from h1.own5) 0 (by omega)
  have o1 := ho1.c1
  have HHD := hide (held_do o1 q1 q5 x5)
  have HEV1 := hide (unhide HEV w1.drew hb1.drew)
  have HB1 := hide hb1
  have HO1 := hide ho1
  clear h1 hb1 ho1 HEV HB0
  generalize w.heap.size = O at HO1 HHD o1 ⊢
  refine wp_seq_k (fun K0 hK0 => ?_)
  have HC0 := hide hK0
  clear hK0
  go_wp2_with fail
  go_region_held2 (fun w' => w'.cell? ⟨O, 1, none⟩ = some (.int .u8 0) ∧ w'.cell? ⟨B, 5, none⟩ = some (.slice (some ⟨g1, 0, none⟩) 1 k1) ∧ w'.cell? ⟨B, 9, none⟩ = some (.slice (some ⟨g5, 0, none⟩) 1 k5) ∧ w'.cell? ⟨g5, 0, none⟩ = some (.bool false)) ((exact unhide HHD)) ((go_at_call 128; with_reducible refine (unhide HEV1).mono ?_; rintro ee w2 ⟨rfl, hw2⟩; subst hw2))
  go_wp2_with fail
  refine unhide HC0 _ _ ?_
  clear HC0
  have HB2 := hide (unhide HB1).drew
  have HO2 := hide ((unhide HO1).below (Below.refl _ _).drew)
  clear HEV1 q1 q5 x5 o1 HHD HB1 HO1
  revert HB2 HO2
  generalize w1.drew = w2
  intro HB2 HO2
  have HC2 := hide (unhide HCA w2 (unhide HB2))
  clear HCA HB2
  obtain ⟨o0, o1, o2, o3, o4, o5, o6, o7⟩ := unhide HO2
  clear HO2
  go_wp2_with (go_at_call 129; with_reducible refine (unhide HC2).mono ?_; rintro ee w3 ⟨rfl, hp⟩; have HP := hide hp; clear hp)
  go_ret
  exact ⟨rfl, unhide HP⟩

set_option maxHeartbeats 2000000 in
set_option maxRecDepth 100000 in
theorem doSet_any {w0 w : World} {B : Nat} {a b c d e f : Value} {xu xv xp : List Value} {arr : List Nat} {dn : Nat} (h : BdAt w0 w B (st a b c d e f) (st (1 + dn) 2 2 2 2 2) (st (valsN arr) (ptCs pt00 ++ ptCs (newPt dn)) xu xv xp [.bool false, .bool false])) (hd : dn ≤ 8) (sh n v : Nat) (s : ByteArray) (hsh : sh = 0 ∨ sh = 3 ∨ sh = 4 ∨ sh = 5 ∨ sh = 6) (hn : n * 2 ^ sh < 64 * dn) (hv : v < 18446744073709551616) (hw : ∀ x ∈ arr, x < 18446744073709551616) :
    Calls Fagg.prog 61 #[.pointer (some ⟨B, 0, none⟩), .agg (opCs 3 1 0 (sh : Int) 0 (n : Int) (v : Int) s)] w fun ee w' => ee = .returned (.bool true) ∧ BdAt w0 w' B (st a b c d e f) (st (1 + dn) 2 2 2 2 2) (st (valsN (arr.set (1 + n * 2 ^ sh / 64) (putN (arr.getD (1 + n * 2 ^ sh / 64) 0) v (n * 2 ^ sh % 64) (2 ^ sh)))) (ptCs pt00 ++ ptCs (newPt dn)) xu xv xp [.bool false, .bool false]) := by
  obtain ⟨g1, k1, e1, _, _⟩ := h.own1.form (show 0 < 2 by omega)
  have e1' : b = .slice (some ⟨g1, 0, none⟩) 2 k1 := e1
  obtain ⟨g5, k5, e5, _, _⟩ := h.own5.form (show 0 < 2 by omega)
  have e5' : f = .slice (some ⟨g5, 0, none⟩) 2 k5 := e5
  clear e1 e5
  subst e1' e5'
  have HEV := hide (fun (W : World) (hW : Below w.heap.size w W) => even_any (h.below hW) (by omega) (by omega) (by omega) (by omega))
  have HCA := hide (fun (W : World) (hW : Below w.heap.size w W) => setData_any dn (h.below hW) hd sh n v s hsh hn hv hw)
  have HB0 := hide (fun (W : World) (hW : Below w.heap.size w W) => h.below hW)
  have hB := h.bl
  clear h
  go_enter Fagg.func61, Fagg.ntmps61
  refine wp_seq_k (fun K0 hK0 => ?_)
  have HC0 := hide hK0
  clear hK0
  go_wp2_with fail
  refine unhide HC0 _ _ ?_
  clear HC0
  refine gen_world _ (fun w' => Below w.heap.size w w' ∧ O8 w' w.heap.size 3 1 0 (sh : Int) 0 (n : Int) (v : Int) s) ⟨(Below.refl _ _).alloc (Nat.le_refl _) _, o8_new _ _ _ _ _ _ _ _ _⟩ ?_
  rintro w1 ⟨hb1, ho1⟩
  have h1 := unhide HB0 w1 hb1
  have q1 : w1.cell? ⟨B, 5, none⟩ = some (.slice (some ⟨g1, 0, none⟩) 2 k1) := h1.c1
  have q5 : w1.cell? ⟨B, 9, none⟩ = some (.slice (some ⟨g5, 0, none⟩) 2 k5) := h1.c5
  have x5 : w1.cell? ⟨g5, 1, none⟩ = some (.bool false) := World.ownsRow.cellAt (show w1.ownsRow w0.heap.size 4 1 (.slice (some ⟨g5, 0, none⟩) 2 k5) 2 [.bool false, .bool false] from h1.own5) 1 (by omega)
  have o1 := ho1.c1
  have HHD := hide (held_do o1 q1 q5 x5)
  have HEV1 := hide (unhide HEV w1.drew hb1.drew)
  have HB1 := hide hb1
  have HO1 := hide ho1
  clear h1 hb1 ho1 HEV HB0
  generalize w.heap.size = O at HO1 HHD o1 ⊢
  refine wp_seq_k (fun K0 hK0 => ?_)
  have HC0 := hide hK0
  clear hK0
  go_wp2_with fail
  go_region_held2 (fun w' => w'.cell? ⟨O, 1, none⟩ = some (.int .u8 1) ∧ w'.cell? ⟨B, 5, none⟩ = some (.slice (some ⟨g1, 0, none⟩) 2 k1) ∧ w'.cell? ⟨B, 9, none⟩ = some (.slice (some ⟨g5, 0, none⟩) 2 k5) ∧ w'.cell? ⟨g5, 1, none⟩ = some (.bool false)) ((exact unhide HHD)) ((go_at_call 128; with_reducible refine (unhide HEV1).mono ?_; rintro ee w2 ⟨rfl, hw2⟩; subst hw2))
  go_wp2_with fail
  refine unhide HC0 _ _ ?_
  clear HC0
  have HB2 := hide (unhide HB1).drew
  have HO2 := hide ((unhide HO1).below (Below.refl _ _).drew)
  clear HEV1 q1 q5 x5 o1 HHD HB1 HO1
  revert HB2 HO2
  generalize w1.drew = w2
  intro HB2 HO2
  have HC2 := hide (unhide HCA w2 (unhide HB2))
  clear HCA HB2
  obtain ⟨o0, o1, o2, o3, o4, o5, o6, o7⟩ := unhide HO2
  clear HO2
  go_wp2_with (go_at_call 132; with_reducible refine (unhide HC2).mono ?_; rintro ee w3 ⟨rfl, hp⟩; have HP := hide hp; clear hp)
  go_ret
  exact ⟨rfl, unhide HP⟩
end Go.Proofs.Ygcfag
