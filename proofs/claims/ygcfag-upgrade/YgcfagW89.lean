/-
  WALKS: valid.Start.
-/
import Derived.Test.YgcfagW88
import Derived.Test.YgcfagW60
import Derived.Test.YgcfagW74
import Derived.Deep.MidRow
import Derived.Deep.RegionHeld2
namespace Go.Proofs.Ygcfag
open Go.RowKit
set_option linter.unusedVariables false
set_option linter.unusedSimpArgs false

/-- A variable of many cells is made; its cells stay a letter. -/
theorem wpList_alloc_big {t : TypeId} {Z : Array Value} (hz : (Fagg.prog.info? t).map (fun i => i.zero) = some (some (.agg Z))) {ops : Array Oper} {rest : List Oper} {o : Oper} {a : Act} {w : World} {Q : Exit → Act → World → Prop} (hg : o.guard = none) (ho : o.op = .alloc t)
    (h : wpList Fagg.prog ops Q rest (a.put o.dst (.pointer (some ⟨w.heap.size, 0, none⟩))) (w.alloc (.cells Z t))) : wpList Fagg.prog ops Q (o :: rest) a w := by
  have hrun : (Instr.alloc t true (.tuple #[])).run Fagg.prog w = .ok (.pointer (some ⟨w.heap.size, 0, none⟩)) (w.alloc (.cells Z t)) := by
    obtain ⟨i, hi, hz⟩ : ∃ i, Fagg.prog.info? t = some i ∧ i.zero = some (.agg Z) := by
      cases hh : Fagg.prog.info? t with
      | none => rw [hh] at hz; cases hz
      | some i => rw [hh] at hz; exact ⟨i, rfl, Option.some.inj hz⟩
    unfold Instr.alloc
    simp [go_sem, zeroValue, typeInfo, hi, hz, newVar]
  refine wpList_plain hg fun K hK => ?_
  unfold Oper.wp execOp
  simp only [ho, Sem.run_bind, Sem.run_pure, Result.andThen_ok, hrun]
  exact hK _ _ h

theorem results_cell_tmp {fn : Func} {r u : Tmp} {t : TypeId} (h : fn.results = #[.cell r t, .tmp u]) (tmps : Array Value) (w : World) (b : Nat) (cs : List Value) (d : TypeDesc) (hp : tmps.getD r undef = .pointer (some ⟨b, 0, none⟩)) (hc : w.rangeAt b 0 cs)
    (hu : Fagg.prog.underlying t = some d) (hd : d.isRow = true) (hi : (Fagg.prog.info? t).map (·.size) = some cs.length) :
    (results fn tmps).run Fagg.prog w = .ok (.tuple #[.agg cs.toArray, tmps.getD u undef]) w := by
  have hl := run_loadVar_mid (P := Fagg.prog) w b 0 t cs d hc hu hd hi
  simp only [results, h, List.mapM_toArray, List.mapM_cons, List.mapM_nil, hp, asAddr, Sem.run_bind, Sem.run_pure, Result.andThen_ok, hl, Array.mapM_eq_mapM_toList]
  simp
  rw [hl]
  simp

def zWalk : List Value := List.replicate 4 (Value.int .u64 0) ++ (List.replicate 256 [Value.int .u16 0, Value.int .u8 0]).flatten ++ [Value.int .u16 0]
theorem info294 : (Fagg.prog.info? 294).map (fun i => i.zero) = some (some (.agg zWalk.toArray)) := by kernel_rfl
theorem size294 : (Fagg.prog.info? 294).map (·.size) = some 517 := by kernel_rfl
theorem zWalk_len : zWalk.length = 517 := by
  unfold zWalk
  simp only [List.length_append, List.length_replicate, List.length_flatten, List.map_replicate, List.length_cons, List.length_nil, List.sum_replicate_nat]
theorem zWalk_one : ∀ v ∈ zWalk, v.oneCell' = true := by
  intro v hv
  unfold zWalk at hv
  simp only [List.mem_append, List.mem_replicate, List.mem_flatten, List.mem_singleton] at hv
  rcases hv with (⟨_, rfl⟩ | ⟨l, ⟨_, rfl⟩, hv⟩) | rfl
  · rfl
  · simp at hv; rcases hv with rfl | rfl <;> rfl
  · rfl
theorem zWalk_0 : zWalk[0]? = some (.int .u64 0) := by rfl
theorem zWalk_4 : zWalk[4]? = some (.int .u16 0) := by rfl
theorem zWalk_5 : zWalk[5]? = some (.int .u8 0) := by rfl
theorem zWalk_516 : zWalk[516]? = some (.int .u16 0) := by
  have h0 : (List.replicate 4 (Value.int .u64 0) ++ (List.replicate 256 [Value.int .u16 0, Value.int .u8 0]).flatten).length = 516 := by
    simp only [List.length_append, List.length_replicate, List.length_flatten, List.map_replicate, List.length_cons, List.length_nil, List.sum_replicate_nat]
  unfold zWalk
  rw [List.getElem?_append_right (by omega), h0]; rfl

set_option maxHeartbeats 1000000 in
theorem push0_any (g : Nat) (x d : Int) (w : World) : Calls Fagg.prog 208 #[.pointer (some ⟨g, 0, none⟩), .int .u16 x, .int .u16 0, .int .u8 d] w fun e w' => e = .returned (.tuple #[]) ∧ w' = w := by
  go_enter Fagg.func208, Fagg.ntmps208
  go_wp2_with fail
  go_loopw [8] (fun s wr => s = .int .u16 0 ∧ wr = w) (fun _ _ => 0)
  case atStart => exact ⟨rfl, rfl⟩
  case round =>
    obtain ⟨rfl, rfl⟩ := hrel
    go_wp2_with fail
    exact bodyPost_end (v := .tuple #[]) (by simp [results, Fagg.results208, go_sem]) rfl ⟨rfl, rfl⟩

set_option maxHeartbeats 1000000 in
set_option maxRecDepth 100000 in
theorem push1_any (g : Nat) (w : World) (h4 : w.cell? ⟨g, 4, none⟩ = some (.int .u16 0)) (h5 : w.cell? ⟨g, 5, none⟩ = some (.int .u8 0)) (h6 : w.cell? ⟨g, 516, none⟩ = some (.int .u16 0)) (f4 : w.frozen? ⟨g, 4, none⟩ = false) (f5 : w.frozen? ⟨g, 5, none⟩ = false) (f6 : w.frozen? ⟨g, 516, none⟩ = false) :
    Calls Fagg.prog 208 #[.pointer (some ⟨g, 0, none⟩), .int .u16 0, .int .u16 1, .int .u8 0] w fun e w' => e = .returned (.tuple #[]) ∧ KeptAt g (fun p => p = 4 ∨ p = 5 ∨ p = 516) w w' ∧ w'.cell? ⟨g, 4, none⟩ = some (.int .u16 0) ∧ w'.cell? ⟨g, 5, none⟩ = some (.int .u8 0) ∧ w'.cell? ⟨g, 516, none⟩ = some (.int .u16 1) := by
  go_enter Fagg.func208, Fagg.ntmps208
  go_wp2_with fail
  go_loopw [8] (fun s wr => (s = .int .u16 0 ∧ wr = w) ∨ (s = .int .u16 1 ∧ Hid (KeptAt g (fun p => p = 4 ∨ p = 5 ∨ p = 516) w wr ∧ wr.cell? ⟨g, 4, none⟩ = some (.int .u16 0) ∧ wr.cell? ⟨g, 5, none⟩ = some (.int .u8 0) ∧ wr.cell? ⟨g, 516, none⟩ = some (.int .u16 1)))) (fun s _ => 1 - (intOf s).toNat)
  case atStart => exact .inl ⟨rfl, rfl⟩
  case round =>
    rcases hrel with ⟨rfl, rfl⟩ | ⟨rfl, HK⟩
    · go_wp2_with fail
      go_region_held2 (fun w' => w'.cell? ⟨g, 516, none⟩ = some (.int .u16 0)) ((first | exact h6 | (simp [go_sem, h6]))) (fail)
      go_wp2_with fail
      refine ⟨.inr ⟨rfl, hide ⟨(KeptAt.set (KeptAt.set (KeptAt.set (ok := fun p => p = 4 ∨ p = 5 ∨ p = 516) (KeptAt.of_below (Below.refl _ _)) 4 (.inl rfl) _) 5 (.inr (.inl rfl)) _) 516 (.inr (.inr rfl)) _).drew, ?_, ?_, ?_⟩⟩, by decide⟩
      · exact (cell_other _ _ _ _ _ (by omega)).trans ((cell_other _ _ _ _ _ (by omega)).trans (cell_same _ _ _ _ _ h4))
      · exact (cell_other _ _ _ _ _ (by omega)).trans (cell_same _ _ _ _ _ ((cell_other _ _ _ _ _ (by omega)).trans h5))
      · exact cell_same _ _ _ _ _ ((cell_other _ _ _ _ _ (by omega)).trans ((cell_other _ _ _ _ _ (by omega)).trans h6))
    · go_wp2_with fail
      exact bodyPost_end (v := .tuple #[]) (by simp [results, Fagg.results208, go_sem]) rfl ⟨rfl, unhide HK⟩

/-- The cells of a walk behind Start. -/
structure WalkCs (cs : List Value) : Prop where
  len : cs.length = 517
  one : ∀ v ∈ cs, v.oneCell' = true
  c0 : cs[0]? = some (.int .u64 1)
  c1 : cs[1]? = some (.int .u64 0)
  c2 : cs[2]? = some (.int .u64 0)
  c3 : cs[3]? = some (.int .u64 0)
  c4 : cs[4]? = some (.int .u16 0)
  c5 : cs[5]? = some (.int .u8 0)
  c516 : cs[516]? = some (.int .u16 1)

theorem cells_of (w : World) (g n : Nat) (h : ∀ p, p < n → ∃ v, w.cell? ⟨g, p, none⟩ = some v ∧ v.oneCell' = true) : ∃ cs : List Value, cs.length = n ∧ (∀ v ∈ cs, v.oneCell' = true) ∧ ∀ p, p < n → cs[p]? = w.cell? ⟨g, p, none⟩ := by
  refine ⟨(List.range n).map fun p => (w.cell? ⟨g, p, none⟩).getD undef, by simp, fun v hv => ?_, fun p hp => ?_⟩
  · rw [List.mem_map] at hv
    obtain ⟨p, hp, rfl⟩ := hv
    obtain ⟨v, hv, h1⟩ := h p (by simpa using hp)
    rw [hv]; exact h1
  · obtain ⟨v, hv, _⟩ := h p hp
    rw [List.getElem?_map, List.getElem?_range hp, hv]; simp [hv]

theorem below_setCells {B : Nat} {a : World} (b : Nat) : ∀ (vs : List Value) (o : Nat) (w : World), Below B a w → B ≤ b → Below B a (w.setCells b o vs)
  | [], o, w, h, hb => by simpa [World.setCells] using h
  | v :: vs, o, w, h, hb => below_setCells b vs (o + 1) (w.setCell ⟨b, o, none⟩ v) (h.setCell hb v) hb

theorem two_big (w : World) (Z Y : Array Value) (hZ : ∀ p : Nat, p < 517 → Z[p]? = zWalk[p]?) (hY : ∀ p : Nat, p < 517 → Y[p]? = zWalk[p]?) : Below w.heap.size w ((w.alloc (.cells Z 294)).alloc (.cells Y 294)) ∧ w.heap.size + 1 < ((w.alloc (.cells Z 294)).alloc (.cells Y 294)).heap.size ∧ (∀ p, p < 517 → ((w.alloc (.cells Z 294)).alloc (.cells Y 294)).cell? ⟨w.heap.size, p, none⟩ = zWalk[p]? ∧ ((w.alloc (.cells Z 294)).alloc (.cells Y 294)).frozen? ⟨w.heap.size, p, none⟩ = false) ∧ (∀ p, p < 517 → ((w.alloc (.cells Z 294)).alloc (.cells Y 294)).cell? ⟨w.heap.size + 1, p, none⟩ = zWalk[p]? ∧ ((w.alloc (.cells Z 294)).alloc (.cells Y 294)).frozen? ⟨w.heap.size + 1, p, none⟩ = false) := by
  have hs : (w.alloc (.cells Z 294)).heap.size = w.heap.size + 1 := by simp
  refine ⟨((Below.refl _ _).alloc (Nat.le_refl _) _).alloc (by simp) _, by simp, fun p hp => ⟨?_, by simp⟩, fun p hp => ⟨?_, by simp⟩⟩
  · rw [World.cell?_alloc_lt _ _ _ (by simp), cell_of_row _ _ p Z 294 (0, 0) (heap_alloc_new w _)]; exact hZ p hp
  · rw [← hs, cell_of_row _ _ p Y 294 (0, 0) (heap_alloc_new _ _)]; exact hY p hp

set_option maxHeartbeats 1000000 in
set_option maxRecDepth 100000 in
theorem start_any (a : Option Addr) (n c : Nat) (w : World) (hn : 1 ≤ n) (hn2 : n ≤ 256) :
    Calls Fagg.prog 170 #[.slice a n c] w fun e w' => ∃ cs, e = .returned (.tuple #[.agg cs.toArray, .bool true]) ∧ WalkCs cs ∧ Below w.heap.size w w' := by
  have e1 : ¬ (n : Int) < 1 := by omega
  have e2 : ¬ (n : Int) > 256 := by omega
  go_enter Fagg.func170, Fagg.ntmps170
  refine wp_seq_k (fun K0 hK0 => ?_)
  refine wp_region_lit ?_
  refine wpList_alloc_big info294 rfl rfl ?_
  simp only [Act.put, List.setIfInBounds_toArray, List.set_cons_zero, List.set_cons_succ]
  have HC0 := hide hK0
  clear hK0
  go_wp2_with fail
  refine unhide HC0 _ _ ?_
  clear HC0
  refine wp_seq_k (fun K0 hK0 => ?_)
  refine wp_region_lit ?_
  refine wpList_alloc_big info294 rfl rfl ?_
  simp only [Act.put, List.setIfInBounds_toArray, List.set_cons_zero, List.set_cons_succ]
  have HC0 := hide hK0
  clear hK0
  go_wp2_with fail
  refine unhide HC0 _ _ ?_
  clear HC0
  refine gen_world _ (fun w' => Below w.heap.size w w' ∧ w.heap.size + 1 < w'.heap.size ∧ (∀ p, p < 517 → w'.cell? ⟨w.heap.size, p, none⟩ = zWalk[p]? ∧ w'.frozen? ⟨w.heap.size, p, none⟩ = false) ∧ (∀ p, p < 517 → w'.cell? ⟨w.heap.size + 1, p, none⟩ = zWalk[p]? ∧ w'.frozen? ⟨w.heap.size + 1, p, none⟩ = false)) (two_big w _ _ (fun p _ => List.getElem?_toArray) (fun p _ => List.getElem?_toArray)) ?_
  rintro w2 ⟨hb2, hs2, hG, hg⟩
  have HB2 := hide hb2
  have HG := hide hG
  have Hg := hide hg
  have c0 : w2.cell? ⟨w.heap.size + 1, 0, none⟩ = some (.int .u64 0) := (hg 0 (by omega)).1.trans zWalk_0
  have f0 := (hg 0 (by omega)).2
  clear hb2 hG hg
  refine wp_seq_k (fun K0 hK0 => ?_)
  have HC0 := hide hK0
  clear hK0
  go_wp2_with fail
  refine unhide HC0 _ _ ?_
  clear HC0
  refine wp_seq_k (fun K0 hK0 => ?_)
  have HC0 := hide hK0
  clear hK0
  go_wp2_with fail
  refine unhide HC0 _ _ ?_
  clear HC0
  refine gen_world _ (fun w' => KeptAt (w.heap.size + 1) (· = 0) w2 w' ∧ w'.cell? ⟨w.heap.size + 1, 0, none⟩ = some (.int .u64 1)) ⟨KeptAt.set (ok := (· = 0)) (KeptAt.of_below (Below.refl _ _)) 0 rfl _, cell_same _ _ _ _ _ c0⟩ ?_
  rintro w3 ⟨hk3, d0⟩
  have hlt3 : ∀ p, p < 517 → p ≠ 0 → w3.cell? ⟨w.heap.size + 1, p, none⟩ = zWalk[p]? := fun p hp h0 => (hk3.cell _ p (by omega) (.inr h0)).trans (unhide Hg p hp).1
  have hfz3 : ∀ p, p < 517 → w3.frozen? ⟨w.heap.size + 1, p, none⟩ = false := fun p hp => (hk3.frozen _ p (by omega)).trans (unhide Hg p hp).2
  have HPU := hide (push1_any (w.heap.size + 1) w3 ((hlt3 4 (by omega) (by omega)).trans zWalk_4) ((hlt3 5 (by omega) (by omega)).trans zWalk_5) ((hlt3 516 (by omega) (by omega)).trans zWalk_516) (hfz3 4 (by omega)) (hfz3 5 (by omega)) (hfz3 516 (by omega)))
  have HK3 := hide hk3
  have HL3 := hide hlt3
  have hs3 := hk3.size
  clear hk3 hlt3 hfz3 c0 f0
  refine wp_seq_k (fun K0 hK0 => ?_)
  have HC0 := hide hK0
  clear hK0
  go_wp2_with (go_at_call 208; with_reducible refine (unhide HPU).mono ?_; rintro e w4 ⟨rfl, hk4, k4, k5, k6⟩; have HK4 := hide hk4; clear hk4)
  refine unhide HC0 _ _ ?_
  clear HC0
  have hs4 := (unhide HK4).size
  have j0 : w4.cell? ⟨w.heap.size + 1, 0, none⟩ = some (.int .u64 1) := ((unhide HK4).cell _ 0 (by omega) (.inr (by omega))).trans d0
  obtain ⟨cs, hl, hone, hcs⟩ := cells_of w4 (w.heap.size + 1) 517 (fun p hp => by
    by_cases h0 : p = 0
    · subst h0; exact ⟨_, j0, rfl⟩
    by_cases h4 : p = 4
    · subst h4; exact ⟨_, k4, rfl⟩
    by_cases h5 : p = 5
    · subst h5; exact ⟨_, k5, rfl⟩
    by_cases h6 : p = 516
    · subst h6; exact ⟨_, k6, rfl⟩
    have e := ((unhide HK4).cell _ p (by omega) (.inr (by omega))).trans (unhide HL3 p hp h0)
    have hz : p < zWalk.length := by rw [zWalk_len]; exact hp
    rw [List.getElem?_eq_getElem hz] at e
    exact ⟨_, e, zWalk_one _ (List.getElem_mem hz)⟩)
  have hz3 : ∀ p, 1 ≤ p → p ≤ 3 → cs[p]? = zWalk[p]? := fun p h1 h2 => (hcs p (by omega)).trans (((unhide HK4).cell _ p (by omega) (.inr (by omega))).trans (unhide HL3 p (by omega) (by omega)))
  have hWC : WalkCs cs := ⟨hl, hone, (hcs 0 (by omega)).trans j0, hz3 1 (by omega) (by omega), hz3 2 (by omega) (by omega), hz3 3 (by omega) (by omega), (hcs 4 (by omega)).trans k4, (hcs 5 (by omega)).trans k5, (hcs 516 (by omega)).trans k6⟩
  have hrange : w4.rangeAt (w.heap.size + 1) 0 cs := fun j v hv => by
    have hj : j < 517 := by rw [← hl]; exact (List.getElem?_eq_some_iff.1 hv).1
    rw [Nat.zero_add, ← hcs j hj]; exact hv
  have hthere : w4.there w.heap.size 0 517 := fun j hj => by
    have hne : w.heap.size ≠ w.heap.size + 1 := by omega
    have e := ((unhide HK4).cell w.heap.size j (by omega) (.inl hne)).trans (((unhide HK3).cell w.heap.size j (by omega) (.inl hne)).trans (unhide HG j hj).1)
    have f := ((unhide HK4).frozen w.heap.size j (by omega)).trans (((unhide HK3).frozen w.heap.size j (by omega)).trans (unhide HG j hj).2)
    have hz : j < zWalk.length := by rw [zWalk_len]; exact hj
    rw [List.getElem?_eq_getElem hz] at e
    rw [Nat.zero_add]
    exact ⟨by rw [e]; rfl, f⟩
  have hsz : (Fagg.prog.info? 294).map (·.size) = some cs.length := by rw [hl]; exact size294
  have hbel : Below w.heap.size w w4 := ((unhide HB2).trans ((unhide HK3).bel _ (by omega) (by omega))).trans ((unhide HK4).bel _ (by omega) (by omega))
  refine wp_seq_k (fun K0 hK0 => ?_)
  refine wp_region_lit ?_
  refine wpList_load_mid rfl 294 _ rfl (w.heap.size + 1) 0 rfl cs _ hrange Fagg.underlying294 rfl hsz ?_
  simp only [Act.put, List.setIfInBounds_toArray, List.set_cons_zero, List.set_cons_succ]
  refine wpList_store_mid rfl 294 _ _ rfl w.heap.size 0 cs.toArray rfl rfl (by simpa [hl] using hthere) (by simpa using hsz) (all_oneCell_toArray hone) ?_
  simp only [Act.put]
  have HR5 := hide (show (w4.setCells w.heap.size 0 cs.toArray.toList).rangeAt w.heap.size 0 cs from World.rangeAt_setCells_same _ _ _ _ (by rw [hl]; exact hthere))
  have HB5 := hide (below_setCells w.heap.size cs.toArray.toList 0 w4 hbel (Nat.le_refl _))
  have HWC := hide hWC
  have HSZ := hide hsz
  have HC0 := hide hK0
  clear hK0 hcs hz3 hone hrange hthere hbel hWC hsz hl j0 k4 k5 k6 d0 HK3 HK4 HL3 HG Hg HB2 HPU
  generalize w4.setCells w.heap.size 0 cs.toArray.toList = w5 at *
  go_wp2_with fail
  refine unhide HC0 _ _ ?_
  clear HC0
  go_wp2_with fail
  exact bodyPost_ret (results_cell_tmp rfl _ _ w.heap.size cs _ rfl (unhide HR5) Fagg.underlying294 rfl (unhide HSZ)) rfl ⟨cs, rfl, unhide HWC, unhide HB5⟩
end Go.Proofs.Ygcfag
