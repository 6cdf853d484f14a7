/-
  WALKS: codec.canon's place.
-/
import Derived.Test.YgcfagW105
namespace Go.Proofs.Ygcfag
open Go.RowKit
set_option linter.unusedVariables false
set_option linter.unusedSimpArgs false

theorem csec_any {w0 w : World} {C G O N : Nat} {A : Option Addr} {t c' capG : Nat} {zs arr : List Int} {nn : Int} (h : CanAt w0 w C G O N A t c' capG zs arr nn) (ht : t ≤ 8) (ha : arr.length ≤ 8) :
    Calls Fagg.prog 159 #[.pointer (some ⟨C, 0, none⟩), .pointer (some ⟨N, 0, none⟩)] w fun e w' => e = .returned (.tuple #[]) ∧ ∃ G' cap', CanAt w0 w' C G' O N A t c' cap' zs (arr ++ zs) nn := by
  by_cases h0 : 0 < t
  · exact csec_pos h h0 ht ha
  · have : t = 0 := by omega
    subst this
    exact csec_zero h ha

theorem CanAt.setG {w0 w : World} {C G O N : Nat} {A : Option Addr} {t c' capG : Nat} {zs : List Int} {x nn : Int} (h : CanAt w0 w C G O N A t c' capG zs [x] nn) (r : Int) : CanAt w0 (w.setCell ⟨G, 0, none⟩ (.int .u64 r)) C G O N A t c' capG zs [r] nn := by
  have c : ∀ b p, b ≠ G → (w.setCell ⟨G, 0, none⟩ (.int .u64 r)).cell? ⟨b, p, none⟩ = w.cell? ⟨b, p, none⟩ := fun b p hb => World.cell?_setCell_other _ _ _ _ (fun e => by simp only [Addr.mk.injEq] at e; exact hb e.1.symm)
  have hG := (h.own.lt G rfl).1
  have ho := h.own.stored 0 (.int .u64 r)
  refine ⟨h.bel.setCell hG _, h.tr.other G h.gr.1 h.gr.2.1 h.gr.2.2 (fun b p hb _ => c b p hb), (c _ _ h.cg).trans h.c0, (c _ _ h.cg).trans h.c1, (c _ _ h.cg).trans h.c2, (c _ _ h.cg).trans h.c3, (c _ _ h.cg).trans h.cn, fun p hp => by rw [World.frozen?_setCell]; exact h.fz p hp, ?_, h.cb, h.cg, h.cr, h.gr, fun y hy => by simpa using h.al y hy⟩
  simpa using ho.1

theorem held_cn {C N : Nat} {u : World} {x y z : Value} (h1 : u.cell? ⟨C, 1, none⟩ = some x) (h2 : u.cell? ⟨N, 2, none⟩ = some y) (h3 : u.cell? ⟨N, 3, none⟩ = some z) : u.drew.cell? ⟨C, 1, none⟩ = some x ∧ u.drew.cell? ⟨N, 2, none⟩ = some y ∧ u.drew.cell? ⟨N, 3, none⟩ = some z := ⟨h1, h2, h3⟩
theorem held_cnG {C N G : Nat} {u : World} {x y z v : Value} (hC : C ≠ G) (hN : N ≠ G) (h : u.cell? ⟨C, 1, none⟩ = some x ∧ u.cell? ⟨N, 2, none⟩ = some y ∧ u.cell? ⟨N, 3, none⟩ = some z) : (u.setCell ⟨G, 0, none⟩ v).cell? ⟨C, 1, none⟩ = some x ∧ (u.setCell ⟨G, 0, none⟩ v).cell? ⟨N, 2, none⟩ = some y ∧ (u.setCell ⟨G, 0, none⟩ v).cell? ⟨N, 3, none⟩ = some z := by
  have hc : ∀ B o, B ≠ G → (u.setCell ⟨G, 0, none⟩ v).cell? ⟨B, o, none⟩ = u.cell? ⟨B, o, none⟩ := fun B o hB => World.cell?_setCell_other _ _ _ _ (fun e => by simp only [Addr.mk.injEq] at e; exact hB e.1.symm)
  exact ⟨(hc _ _ hC).trans h.1, (hc _ _ hN).trans h.2.1, (hc _ _ hN).trans h.2.2⟩

set_option maxHeartbeats 1000000 in
set_option maxRecDepth 100000 in
theorem place_any {w0 w : World} {C G O N : Nat} {A : Option Addr} {t c' capG : Nat} {zs : List Int} {nn : Int} (h : CanAt w0 w C G O N A t c' capG zs [0] nn) (ht : t ≤ 8) :
    Calls Fagg.prog 92 #[.pointer (some ⟨C, 0, none⟩), .int .u16 0, .pointer (some ⟨N, 0, none⟩)] w fun e w' => e = .returned (.tuple #[]) ∧ ∃ G' cap', CanAt w0 w' C G' O N A t c' cap' zs ((rootW t : Int) :: zs) nn := by
  have HMK := hide (fun W => makeRoot_any t W ht)
  have HSE := hide (fun W x (hW : CanAt w0 W C G O N A t c' capG zs [x] nn) => csec_any hW ht (by simp))
  have HKI := hide (fun W G' cap' arr (hW : CanAt w0 W C G' O N A t c' cap' zs arr nn) => ckids_any C O N 1 t c' A zs W hW.tr ht)
  have c1 := h.c1
  simp only [List.length_singleton] at c1
  have k0 := h.tr.k0
  have k2 := h.tr.k2
  have k3 := h.tr.k3
  have g0 := h.own.cellAt 0 (by simp)
  simp only [List.map_cons, List.map_nil, List.getElem?_cons_zero] at g0
  have gf := h.own.frozenAt 0
  have hCG := h.cg
  have hNG : N ≠ G := Ne.symm h.gr.2.1
  have H := hide h
  clear h
  have wt : IntKind.u8.wrap (t : Int) = (t : Int) := by rw [IntKind.wrap_u8]; omega
  have wz : IntKind.u8.wrap 0 = 0 := by decide
  generalize (rootW t : Int) = r at *
  have HHD := hide (held_cn c1 k2 k3)
  go_enter Fagg.func92, Fagg.ntmps92
  refine wp_seq_k (fun K0 hK0 => ?_)
  have HC0 := hide hK0
  clear hK0
  go_wp2_with fail
  refine unhide HC0 _ _ ?_
  clear HC0
  go_wp2_with fail
  go_region_held2 (fun w' => w'.cell? ⟨C, 1, none⟩ = some (.slice (some ⟨G, 0, none⟩) 1 capG) ∧ w'.cell? ⟨N, 2, none⟩ = some (.slice A t c') ∧ w'.cell? ⟨N, 3, none⟩ = some (.slice none 0 0)) ((first | exact unhide HHD | exact held_cnG hCG hNG (unhide HHD))) ((go_at_call 158; (try simp only [wt, wz]); with_reducible refine (unhide HMK _).mono ?_; rintro e w3 ⟨rfl, hw3⟩; subst hw3))
  have h4 := ((unhide H).setG r).below (Below.refl (w.setCell ⟨G, 0, none⟩ (.int .u64 r)).heap.size _).drew
  clear c1 k0 k2 k3 g0 gf HHD H
  revert h4
  generalize (w.setCell ⟨G, 0, none⟩ (.int .u64 r)).drew = w4
  intro h4
  have HS4 := hide (unhide HSE w4 r h4)
  clear h4
  go_wp2_with (first | (go_at_call 159; with_reducible refine (unhide HS4).mono ?_; rintro e w5 ⟨rfl, G5, cap5, h5⟩; have HK5 := hide (unhide HKI w5 G5 cap5 _ h5); have H5 := hide h5; clear h5) | (go_at_call 160; with_reducible refine (unhide HK5).mono ?_; rintro e w6 ⟨rfl, hw6⟩; subst hw6))
  exact bodyPost_end (v := .tuple #[]) (by simp [results, Fagg.results92, go_sem]) rfl ⟨rfl, G5, cap5, unhide H5⟩

theorem held_cs {C S O N : Nat} {u : World} {x y z v r : Value} (h1 : u.cell? ⟨S, 0, none⟩ = some x) (h2 : u.cell? ⟨C, 0, none⟩ = some y) (h3 : u.cell? ⟨O, 0, none⟩ = some z) (h4 : u.cell? ⟨S, 1, none⟩ = some v) : u.drew.cell? ⟨S, 0, none⟩ = some x ∧ u.drew.cell? ⟨C, 0, none⟩ = some y ∧ u.drew.cell? ⟨O, 0, none⟩ = some z ∧ u.drew.cell? ⟨S, 1, none⟩ = some v := ⟨h1, h2, h3, h4⟩
abbrev o106_1 : Oper := { dst := some 10, op := Op.call { callee := Callee.value (Operand.func 38), args := #[Operand.tmp 9], argTypes := #[70] }, type := 70, pos := "codec.go:110", after := #[{ on := 0, ground := Ground.data }], guard := none }
abbrev o106_2 : Oper := { dst := some 11, op := Op.makeSlice 44 (Operand.const (Value.int IntKind.i64 1)) (Operand.const (Value.int IntKind.i64 16)), type := 44, pos := "codec.go:110", after := #[], guard := none }
abbrev o106_3 : Oper := { dst := some 12, op := Op.build 194 #[(0, Operand.tmp 10), (1, Operand.tmp 11)], type := 194, pos := "codec.go:110", after := #[{ on := 1, ground := Ground.data }, { on := 2, ground := Ground.data }], guard := none }
abbrev o106_4 : Oper := { dst := some 4, op := Op.alloc 194, type := 0, pos := "codec.go:110", after := #[], guard := none }
abbrev o106_5 : Oper := { dst := none, op := Op.store 194 (Operand.tmp 4) (Operand.tmp 12), type := 0, pos := "codec.go:110", after := #[{ on := 4, ground := Ground.data }, { on := 3, ground := Ground.data }, { on := 1, ground := Ground.chain }, { on := 0, ground := Ground.phase }, { on := 1, ground := Ground.phase }, { on := 2, ground := Ground.phase }, { on := 3, ground := Ground.phase }, { on := 4, ground := Ground.phase }], guard := none }
theorem CSt.start {w0 w : World} {t : Nat} {zs : List Int} (h : Below w0.heap.size w0 w) : CSt w0 w none none none t zs := by
  refine ⟨h, ?_, ?_, ?_, ?_, ?_, ?_⟩ <;> intros <;> simp_all
theorem wp_make16 {o : Oper} {a : Act} {w : World} {K : Act → World → Prop} {Q : Exit → Act → World → Prop} (ho : o.op = .makeSlice 44 (.const (.int .i64 1)) (.const (.int .i64 16)))
    (h : K (a.put o.dst (.slice (some ⟨w.heap.size, 0, none⟩) 1 16)) (w.alloc (.cells (List.replicate 16 (Value.int .u64 0)).toArray 32))) : o.wp Fagg.prog a w K Q := by
  obtain ⟨i0, hi0, hz0, hz1, hz2⟩ := info_parts info32
  have hrun := run_make (P := Fagg.prog) w 44 32 i0 (.int .u64 0) Fagg.underlying44 hi0 hz0 .i64 .i64 1 16 (by omega) (by omega) (by rw [hz2]; decide) (by omega)
  have hm : madeCells (Value.int .u64 0).cells ((16 : Int).toNat * i0.size) = (List.replicate 16 (Value.int .u64 0)).toArray := by
    rw [hz1]
    apply Array.toList_inj.mp
    exact toList_madeCells_one _ 16
  rw [hm] at hrun
  have e1 : a.eval (.const (.int .i64 1)) = .int .i64 1 := rfl
  have e2 : a.eval (.const (.int .i64 16)) = .int .i64 16 := rfl
  unfold Oper.wp execOp
  simp only [ho, e1, e2, Sem.run_bind, Sem.run_pure, Result.andThen_ok, hrun]
  exact h
theorem can_there {w0 w : World} {C G O N c' t : Nat} {A : Option Addr} {zs : List Int} (h : CSt w0 w (some C) (some G) (some (O, N, A, c')) t zs) : w.there C 0 (canCs (.pointer (some ⟨O, 0, none⟩)) (.slice (some ⟨G, 0, none⟩) 1 16)).toArray.size := by
  rw [show (canCs (.pointer (some ⟨O, 0, none⟩)) (.slice (some ⟨G, 0, none⟩) 1 16)).toArray.size = 1027 by simpa using canCs_len _ _]
  exact (h.cc C rfl).2.2
theorem can_size (O G : Nat) : (Fagg.prog.info? 194).map (·.size) = some (canCs (.pointer (some ⟨O, 0, none⟩)) (.slice (some ⟨G, 0, none⟩) 1 16)).toArray.size := by
  rw [show (canCs (.pointer (some ⟨O, 0, none⟩)) (.slice (some ⟨G, 0, none⟩) 1 16)).toArray.size = 1027 by simpa using canCs_len _ _]; exact size194

end Go.Proofs.Ygcfag
