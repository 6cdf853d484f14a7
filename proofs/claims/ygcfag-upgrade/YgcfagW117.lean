/-
  WALKS: law's filled.
-/
import Derived.Test.YgcfagW116
namespace Go.Proofs.Ygcfag
open Go.RowKit
set_option linter.unusedVariables false
set_option linter.unusedSimpArgs false

/-- The cells from an address on. -/
def RowAt (w : World) (a : Option Addr) (cs : List Value) : Prop := cs = [] ∨ ∃ b o, a = some ⟨b, o, none⟩ ∧ ∀ (i : Nat) (u : Value), cs[i]? = some u → w.cell? ⟨b, o + i, none⟩ = some u
theorem RowAt.below {w w' : World} {a : Option Addr} {cs : List Value} (h : RowAt w a cs) (hb : Below w.heap.size w w') : RowAt w' a cs := by
  rcases h with h | ⟨b, o, ha, hc⟩
  · exact .inl h
  · refine .inr ⟨b, o, ha, fun i u hi => ?_⟩
    have h1 := hc i u hi
    exact (hb.cell (p := ⟨b, o + i, none⟩) (World.block_lt_of_cell? w _ h1)).trans h1
def psCells (ps : List (Nat × Nat)) : List Value := ps.flatMap (fun p => placeCs p.1 p.2)
theorem psCells_len (ps : List (Nat × Nat)) : (psCells ps).length = 4 * ps.length := by
  induction ps with
  | nil => rfl
  | cons p ps ih => simp only [psCells, List.flatMap_cons, List.length_append] at ih ⊢; rw [ih]; simp [placeCs]; omega
theorem psCells_get (ps : List (Nat × Nat)) (j r : Nat) (hj : j < ps.length) (hr : r < 4) : (psCells ps)[4 * j + r]? = (placeCs (ps.getD j (0, 0)).1 (ps.getD j (0, 0)).2)[r]? := by
  induction ps generalizing j with
  | nil => simp at hj
  | cons p ps ih =>
    simp only [psCells, List.flatMap_cons]
    cases j with
    | zero => rw [List.getElem?_append_left (by simp [placeCs]; omega)]; simp
    | succ j =>
      rw [List.getElem?_append_right (by simp [placeCs]; omega)]
      rw [show 4 * (j + 1) + r - (placeCs p.1 p.2).length = 4 * j + r by simp [placeCs]; omega]
      have := ih j (by simpa using hj)
      simpa [psCells] using this
theorem RowAt.place {w : World} {a : Option Addr} {ps : List (Nat × Nat)} (h : RowAt w a (psCells ps)) {j : Nat} (hj : j < ps.length) : ∃ b o, a = some ⟨b, o, none⟩ ∧ w.cell? ⟨b, o + j * 4, none⟩ = some (.int .u8 ((2 ^ (ps.getD j (0, 0)).1 : Nat) : Int)) ∧ w.cell? ⟨b, o + j * 4 + 1, none⟩ = some (.int .u16 ((ps.getD j (0, 0)).2 : Int)) ∧ w.cell? ⟨b, o + j * 4 + 2, none⟩ = some (.int .u8 0) ∧ w.cell? ⟨b, o + j * 4 + 3, none⟩ = some (.bool false) := by
  rcases h with h0 | ⟨b, o, ha, hc⟩
  · exfalso
    have := psCells_len ps
    rw [h0] at this; simp at this; omega
  · have g : ∀ r u, r < 4 → (placeCs (ps.getD j (0, 0)).1 (ps.getD j (0, 0)).2)[r]? = some u → w.cell? ⟨b, o + j * 4 + r, none⟩ = some u := fun r u hr hu => by
      have h1 := hc (4 * j + r) u ((psCells_get ps j r hj hr).trans hu)
      rw [show o + j * 4 + r = o + (4 * j + r) by omega]; exact h1
    exact ⟨b, o, ha, g 0 _ (by omega) rfl, g 1 _ (by omega) rfl, g 2 _ (by omega) rfl, g 3 _ (by omega) rfl⟩
def fillN (val : Nat → Nat) : List Nat → List (Nat × Nat) → Nat → List Nat
  | arr, [], _ => arr
  | arr, p :: ps, j => fillN val (stepN arr p.1 p.2 (val j)) ps (j + 1)
theorem drop_getD {ps : List (Nat × Nat)} {j : Nat} (hj : j < ps.length) : ps.drop j = ps.getD j (0, 0) :: ps.drop (j + 1) := by
  rw [List.drop_eq_getElem_cons hj, List.getD_eq_getElem?_getD, List.getElem?_eq_getElem hj]; rfl
theorem stepN_lt {arr : List Nat} (h : ∀ x ∈ arr, x < 18446744073709551616) (sh i v : Nat) : ∀ x ∈ stepN arr sh i v, x < 18446744073709551616 := by
  intro x hx
  unfold stepN at hx
  rcases List.mem_or_eq_of_mem_set hx with h1 | h1
  · exact h x h1
  · rw [h1]; exact putN_lt _ _ _ _
def arr0 (d : Nat) : List Nat := rootW d :: List.replicate d 0
theorem arr0_vals (d : Nat) : valsN (arr0 d) = .int .u64 (rootW d : Int) :: List.replicate d (.int .u64 0) := by
  simp [valsN, arr0]
theorem arr0_lt (d : Nat) (hd : d ≤ 8) : ∀ x ∈ arr0 d, x < 18446744073709551616 := by
  intro x hx
  simp only [arr0, List.mem_cons, List.mem_replicate] at hx
  rcases hx with h | h
  · subst h; unfold rootW; split <;> omega
  · omega
def intsN (l : List Nat) : List Int := l.map (fun (x : Nat) => (x : Int))
theorem valsN_ints (l : List Nat) : valsN l = (intsN l).map (Value.int .u64) := by simp [valsN, intsN]

set_option maxHeartbeats 2000000 in
set_option maxRecDepth 100000 in
theorem filled_any (aP : Option Addr) (cP d : Nat) (ps : List (Nat × Nat)) (aV : Option Addr) (nV cV : Nat) (xs : List Int) (w : World) (hP : RowAt w aP (psCells ps)) (hps : ∀ p ∈ ps, ShOK p.1 ∧ p.2 * 2 ^ p.1 < 64 * d) (hd : d ≤ 8) (hV : Sl .u64 w aV xs) (hnV : xs.length = nV) (hxs : ∀ x ∈ xs, 0 ≤ x ∧ x < 18446744073709551616) (hpl : ps.length ≤ 100) :
    Calls Fagg.prog 24 #[.slice aP ps.length cP, .int .u8 (d : Int), .int .u8 0, .slice aV nV cV] w fun ee w' => ∃ g cap, ee = .returned (.tuple #[.slice (some ⟨g, 0, none⟩) (1 + d) cap, .bool true]) ∧ Sl .u64 w' (some ⟨g, 0, none⟩) (intsN (fillN (fun j => (xs.getD j 0).toNat) (arr0 d) ps 0)) ∧ (fillN (fun j => (xs.getD j 0).toNat) (arr0 d) ps 0).length = 1 + d ∧ Below w.heap.size w w' := by
  have HNW := hide (new_any w)
  have hval : ∀ j, (xs.getD j 0).toNat < 18446744073709551616 ∧ (((xs.getD j 0).toNat : Nat) : Int) = xs.getD j 0 := fun j => by
    have : 0 ≤ xs.getD j 0 ∧ xs.getD j 0 < 18446744073709551616 := by
      rw [List.getD_eq_getElem?_getD]
      rcases hg : xs[j]? with _ | y
      · exact ⟨by simp, by simp⟩
      · exact hxs y (List.mem_of_getElem? hg)
    omega
  have HVA := hide (fun (W : World) (hW : Below w.heap.size w W) (j : Nat) => value_any aV nV cV j xs W (hV.below hW) hnV)
  have HVL := hide hval
  have HPR := hide (fun (W : World) (hW : Below w.heap.size w W) => hP.below hW)
  have HPS := hide hps
  have HD := hide hd
  have HPL := hide hpl
  clear hval hP hps hV hnV hxs hd hpl
  generalize hval : (fun j => (xs.getD j 0).toNat) = val at *
  have HVJ : Hid (∀ j, xs.getD j 0 = ((val j : Nat) : Int) ∧ val j < 18446744073709551616) := hide (fun j => by rw [← hval]; exact ⟨(unhide HVL j).2.symm, (unhide HVL j).1⟩)
  clear HVL hval
  go_enter Fagg.func24, Fagg.ntmps24
  refine wp_seq_k (fun K0 hK0 => ?_)
  have HC0 := hide hK0
  clear hK0
  go_wp2_with fail
  refine unhide HC0 _ _ ?_
  clear HC0
  refine wp_seq_k (fun K0 hK0 => ?_)
  have HC0 := hide hK0
  clear hK0
  go_wp2_with (go_at_call 60; with_reducible refine (unhide HNW).mono ?_; rintro ee w1 ⟨B, va, vb, vc, vd, ve, vf, rfl, h1⟩; have HDO := hide (doNew_any h1 0 0 { data := #[] } d (unhide HD)); clear h1)
  refine unhide HC0 _ _ ?_
  clear HC0
  clear HNW
  refine wp_seq_k (fun K0 hK0 => ?_)
  have HC0 := hide hK0
  clear hK0
  go_wp2_with (go_at_call 61; with_reducible refine (unhide HDO).mono ?_; rintro ee w2 ⟨rfl, ua, ub, uc, ud, ue, uf, xu, xv, xp, h2⟩; have H2 := hide h2; clear h2)
  refine unhide HC0 _ _ ?_
  clear HC0
  clear HDO va vb vc vd ve vf
  have H3 : Hid (∃ arr, BdAt w w2 B (st ua ub uc ud ue uf) (st (1 + d) 2 2 2 2 2) (st (valsN arr) (ptCs pt00 ++ ptCs (newPt d)) xu xv xp [.bool false, .bool false]) ∧ (∀ x ∈ arr, x < 18446744073709551616) ∧ fillN val arr (ps.drop (ps.length - ps.length)) (ps.length - ps.length) = fillN val (arr0 d) ps 0) := hide ⟨arr0 d, by rw [arr0_vals]; exact unhide H2, arr0_lt d (unhide HD), by simp⟩
  clear H2
  refine wp_seq_k (fun K0 hK0 => ?_)
  have HC0 := hide hK0
  clear hK0
  go_wp2_with fail
  go_loopg [22] ps.length (fun r s wr => ∃ j : Nat, r = ps.length - j ∧ j ≤ ps.length ∧ s = .int .i64 (j : Int) ∧ Hid (∃ arr, BdAt w wr B (st ua ub uc ud ue uf) (st (1 + d) 2 2 2 2 2) (st (valsN arr) (ptCs pt00 ++ ptCs (newPt d)) xu xv xp [.bool false, .bool false]) ∧ (∀ x ∈ arr, x < 18446744073709551616) ∧ fillN val arr (ps.drop j) j = fillN val (arr0 d) ps 0))
  case atStart => exact ⟨0, by omega, by omega, rfl, by simpa using H3⟩
  case round =>
    obtain ⟨j, rfl, hj, rfl, HR⟩ := hrel
    clear H3
    obtain ⟨arr, hbd, hlt, hfl⟩ := unhide HR
    clear HR
    by_cases hjl : j < ps.length
    · have d1 : decide ((j : Int) < (ps.length : Int)) = true := decide_eq_true (by omega)
      have HPJ : Hid (ShOK (ps.getD j (0, 0)).1 ∧ (ps.getD j (0, 0)).2 * 2 ^ (ps.getD j (0, 0)).1 < 64 * d) := hide (unhide HPS _ (by rw [List.getD_eq_getElem?_getD, List.getElem?_eq_getElem hjl]; exact List.getElem_mem hjl))
      rw [drop_getD hjl] at hfl
      obtain ⟨b, o, rfl, c0, c1, c2, c3⟩ := (unhide HPR wr hbd.bel).place hjl
      generalize hpj : ps.getD j (0, 0) = p at *
      obtain ⟨sh, i⟩ := p
      have HPU := hide (fun (W : World) (hW : Below wr.heap.size wr W) => put62_any (hbd.below hW) (unhide HD) sh i (val j) (unhide HPJ).1 (unhide HPJ).2 (unhide HVJ j).2 hlt)
      have HST : Hid (∀ x ∈ stepN arr sh i (val j), x < 18446744073709551616) := hide (stepN_lt hlt sh i (val j))
      have HFL : Hid (fillN val (stepN arr sh i (val j)) (ps.drop (j + 1)) (j + 1) = fillN val (arr0 d) ps 0) := hide hfl
      have HV1 := hide (fun (W : World) (hW : Below wr.heap.size wr W) => unhide HVA W (hbd.bel.trans (hW.mono hbd.bel.size)) j)
      clear hlt hfl hbd
      have b0 : (0 : Int) ≤ (j : Int) := by omega
      have b1 : (j : Int) < (ps.length : Int) := by omega
      generalize stepN arr sh i (val j) = arr2 at *
      unfold placeCs at HPU
      have hs2 := (unhide HVJ j).1
      rw [(unhide HVJ j).1] at HV1
      generalize 2 ^ sh = s2 at *
      generalize val j = vj at *
      have HJL := hide hjl
      have HWJ : Hid (wrap64 ((j : Int) + 1) = ((j + 1 : Nat) : Int)) := hide (by have := unhide HPL; unfold wrap64; omega)
      have HPL2 := hide (unhide HPL)
      clear HPR HVA HVJ hs2 HPS HPJ hjl
      go_wp2_with fail
      refine gen_world _ (fun w' => Below wr.heap.size wr w' ∧ w'.cell? ⟨wr.heap.size, 0, none⟩ = some (.int .u8 (s2 : Int)) ∧ w'.cell? ⟨wr.heap.size, 1, none⟩ = some (.int .u16 (i : Int)) ∧ w'.cell? ⟨wr.heap.size, 2, none⟩ = some (.int .u8 0) ∧ w'.cell? ⟨wr.heap.size, 3, none⟩ = some (.bool false)) ⟨(Below.refl _ _).alloc (Nat.le_refl _) _, by simp, by simp, by simp, by simp⟩ ?_
      clear c0 c1 c2 c3
      rintro w3 ⟨hb3, c0, c1, c2, c3⟩
      have HV3 := hide (unhide HV1 w3.drew hb3.drew)
      have HP3 := hide (unhide HPU w3.drew hb3.drew)
      clear HV1 HPU hb3
      go_region_law (go_simp; go_wp2_with (first | (go_at_call 63; with_reducible refine (unhide HV3).mono ?_; rintro ee w4 ⟨rfl, hw4⟩; subst hw4) | (go_at_call 62; with_reducible refine (unhide HP3).mono ?_; rintro ee w5 ⟨rfl, h5⟩; have H5 := hide h5; clear h5)))
      all_goals (go_wp2_with fail)
      all_goals (go_roundg (ps.length - (j + 1)))
      all_goals first
        | exact ⟨j + 1, rfl, unhide HJL, (by rw [unhide HWJ]), hide ⟨arr2, unhide H5, unhide HST, unhide HFL⟩⟩
        | (have := unhide HJL; omega)
    · have hjl2 : j = ps.length := by omega
      have d1 : decide ((j : Int) < (ps.length : Int)) = false := decide_eq_false (by omega)
      rw [hjl2, List.drop_length] at hfl
      have hfl2 : arr = fillN val (arr0 d) ps 0 := hfl
      obtain ⟨g0, k0, e0, _, _⟩ := hbd.own0.form (show 0 < 1 + d by omega)
      have e0' : ua = .slice (some ⟨g0, 0, none⟩) (1 + d) k0 := e0
      clear e0
      subst e0'
      have q0 : wr.cell? ⟨B, 0, none⟩ = some (.slice (some ⟨g0, 0, none⟩) (1 + d) k0) := hbd.c0
      have hown : wr.ownsRow w.heap.size 32 1 (.slice (some ⟨g0, 0, none⟩) (1 + d) k0) (1 + d) ((intsN arr).map (Value.int .u64)) := by rw [← valsN_ints]; exact hbd.own0
      have hsl := Sl.of_own hown
      have HSL : Hid (Sl .u64 wr (some ⟨g0, 0, none⟩) (intsN (fillN val (arr0 d) ps 0))) := hide (by rw [← hfl2]; exact hsl.2.2.1)
      have HLN : Hid ((fillN val (arr0 d) ps 0).length = 1 + d) := hide (by rw [← hfl2]; have := hsl.1; simp [intsN] at this; omega)
      have HBE := hide hbd.bel
      clear hsl hown hfl hfl2 hbd hlt hjl2 HPR HVA HVJ HPS
      go_wp2_with fail
      refine unhide HC0 _ _ ?_
      clear HC0
      go_wp2_with fail
      refine bodyPost_ret (v := .tuple #[.slice (some ⟨g0, 0, none⟩) (1 + d) k0, .bool true]) (by simp [results, Fagg.results24, go_sem]) rfl ⟨g0, k0, rfl, unhide HSL, unhide HLN, unhide HBE⟩
end Go.Proofs.Ygcfag
