/-
  WALKS: schema's Layout.
-/
import Derived.Test.YgcfagW121
namespace Go.Proofs.Ygcfag
open Go.RowKit
set_option linter.unusedVariables false
set_option linter.unusedSimpArgs false

abbrev LSt := List (Nat × Nat) × Nat × List Nat
def markN (us : List Nat) (sh i : Nat) : List Nat := us.set (i * 2 ^ sh / 64) (us.getD (i * 2 ^ sh / 64) 0 ||| ((2 ^ (2 ^ sh) - 1) * 2 ^ (i * 2 ^ sh % 64)))
def layStep (s : LSt) (k : Nat) : Option LSt :=
  match fitN s.2.2 s.2.1 (shOf k) with
  | some i => some (s.1 ++ [(shOf k, i)], s.2.1, markN s.2.2 (shOf k) i)
  | none => if s.2.1 = 8 then none else some (s.1 ++ [(shOf k, s.2.1 * (64 / 2 ^ shOf k))], s.2.1 + 1, markN s.2.2 (shOf k) (s.2.1 * (64 / 2 ^ shOf k)))
def layFrom : LSt → List Nat → Option LSt
  | s, [] => some s
  | s, k :: ks => match layStep s k with
    | none => none
    | some s' => layFrom s' ks
def layN (ks : List Nat) : Option LSt := layFrom ([], 0, List.replicate 8 0) ks

theorem info112 : (Fagg.prog.info? 112).map (fun i => (i.zero, i.size, i.bytes)) = some (some (.agg #[.int .u8 0, .int .u16 0, .int .u8 0, .bool false]), 4, 6) := by kernel_rfl
theorem wpList_make47 {ops : Array Oper} {rest : List Oper} {o : Oper} {a : Act} {w : World} {Q : Exit → Act → World → Prop} (hg : o.guard = none) (x : Operand) (ho : o.op = .makeSlice 47 (.const (.int .i64 0)) x) (n : Nat) (hx : a.eval x = .int .i64 (n : Int)) (hn : n ≤ 1000)
    (h : ∀ w', w'.ownsRow w.heap.size 112 4 (.slice (some ⟨w.heap.size, 0, none⟩) 0 n) 0 [] → Below w.heap.size w w' → w'.heap.size = w.heap.size + 1 → wpList Fagg.prog ops Q rest (a.put o.dst (.slice (some ⟨w.heap.size, 0, none⟩) 0 n)) w') : wpList Fagg.prog ops Q (o :: rest) a w := by
  obtain ⟨i0, hi0, hz0, hz1, hz2⟩ := info_parts info112
  have hrun := run_make (P := Fagg.prog) w 47 112 i0 _ Fagg.underlying47 hi0 hz0 .i64 .i64 0 (n : Int) (by omega) (by omega) (by rw [hz2]; omega) (by omega)
  have e1 : a.eval (.const (.int .i64 0)) = .int .i64 0 := rfl
  refine wpList_plain hg fun K hK => ?_
  unfold Oper.wp execOp
  simp only [ho, e1, hx, Sem.run_bind, Sem.run_pure, Result.andThen_ok, hrun]
  refine hK _ _ (h _ ?_ ((Below.refl _ _).alloc (Nat.le_refl _) _) (by simp))
  exact World.ownsRow_made w _ n (Nat.le_refl _) (by unfold maxLen; omega) (by rw [size_madeCells, hz1]; simp)
theorem RowAt.kind {w : World} {a : Option Addr} {kk : List Nat} (h : RowAt w a (tsCells kk)) {j : Nat} (hj : j < kk.length) : ∃ b o, a = some ⟨b, o, none⟩ ∧ w.cell? ⟨b, o + j * 4, none⟩ = some (.int .u8 ((kk.getD j 0 : Nat) : Int)) ∧ w.cell? ⟨b, o + j * 4 + 1, none⟩ = some (.int .u8 0) ∧ w.cell? ⟨b, o + j * 4 + 2, none⟩ = some (.int .u8 0) ∧ w.cell? ⟨b, o + j * 4 + 3, none⟩ = some (.int .u8 0) := by
  rcases h with h0 | ⟨b, o, ha, hc⟩
  · exfalso
    have := tsCells_len kk
    rw [h0] at this; simp at this; omega
  · have g : ∀ r u, r < 4 → [Value.int .u8 ((kk.getD j 0 : Nat) : Int), .int .u8 0, .int .u8 0, .int .u8 0][r]? = some u → w.cell? ⟨b, o + j * 4 + r, none⟩ = some u := fun r u hr hu => by
      have h1 := hc (4 * j + r) u ((tsCells_get kk j r hj hr).trans hu)
      rw [show o + j * 4 + r = o + (4 * j + r) by omega]; exact h1
    exact ⟨b, o, ha, g 0 _ (by omega) rfl, g 1 _ (by omega) rfl, g 2 _ (by omega) rfl, g 3 _ (by omega) rfl⟩

/-- Layout's variables in the middle of its loop. -/
structure LayAt (w0 w : World) (U : Nat) (vP : Value) (ps : List (Nat × Nat)) (d : Nat) (us : List Nat) : Prop where
  bel : Below w0.heap.size w0 w
  own : w.ownsRow w0.heap.size 112 4 vP ps.length (psCells ps)
  cu : ∀ i, i < 8 → w.cell? ⟨U, i, none⟩ = some (.int .u64 ((us.getD i 0 : Nat) : Int))
  fu : ∀ i, i < 8 → w.frozen? ⟨U, i, none⟩ = false
  ul : us.length = 8
  ub : ∀ i, us.getD i 0 < 18446744073709551616
  ne : vP.ownBlock ≠ some U
  u0 : w0.heap.size ≤ U
  u1 : U < w.heap.size
  d8 : d ≤ 8

def LayPost (w0 : World) (r : Option LSt) (e : Ending) (w' : World) : Prop :=
  Below w0.heap.size w0 w' ∧ match r with
  | none => e = .returned (.tuple #[.slice none 0 0, .int .u8 0, .int .u8 0, .bool false])
  | some s => ∃ aP cP, e = .returned (.tuple #[.slice aP s.1.length cP, .int .u8 (s.2.1 : Int), .int .u8 0, .bool true]) ∧ RowAt w' aP (psCells s.1)

theorem lay_start (w w1 : World) (vP : Value) (n : Nat) (hb : Below w.heap.size w w1) (ho : w1.ownsRow w.heap.size 112 4 vP 0 []) : LayAt w (w1.alloc (.cells #[.int .u64 0, .int .u64 0, .int .u64 0, .int .u64 0, .int .u64 0, .int .u64 0, .int .u64 0, .int .u64 0] 121)) w1.heap.size vP [] 0 (List.replicate 8 0) := by
  refine ⟨hb.alloc hb.size _, ho.alloc _, ?_, ?_, by simp, ?_, ?_, hb.size, by simp, by omega⟩
  · intro i hi
    rw [World.cell?_alloc_new]
    match i, hi with
    | 0, _ => rfl
    | 1, _ => rfl
    | 2, _ => rfl
    | 3, _ => rfl
    | 4, _ => rfl
    | 5, _ => rfl
    | 6, _ => rfl
    | 7, _ => rfl
  · intro i hi
    rw [frozen?_alloc_cells]
    simp [World.frozen?]
  · intro i
    rw [List.getD_eq_getElem?_getD, List.getElem?_replicate]
    split <;> simp
  · intro e; have := (ho.lt _ e).2; omega

theorem fitFrom_lt {us : List Nat} {sh : Nat} : ∀ {k i j : Nat}, fitFrom us sh k i = some j → i ≤ j ∧ j < i + k ∧ fitB us sh j = true
  | 0, _, _, h => by simp [fitFrom] at h
  | k + 1, i, j, h => by
    unfold fitFrom at h
    split at h
    · rename_i hf
      have := Option.some.inj h
      subst this
      exact ⟨Nat.le_refl _, by omega, hf⟩
    · obtain ⟨h1, h2, h3⟩ := fitFrom_lt h
      exact ⟨by omega, by omega, h3⟩
theorem fitN_lt {us : List Nat} {d sh i : Nat} (h : fitN us d sh = some i) (hsh : ShOK sh) : i * 2 ^ sh + 2 ^ sh ≤ 64 * d ∧ fitB us sh i = true := by
  obtain ⟨_, h2, h3⟩ := fitFrom_lt h
  refine ⟨?_, h3⟩
  rcases hsh with rfl | rfl | rfl | rfl | rfl <;> simp at h2 ⊢ <;> omega
theorem psCells_snoc (ps : List (Nat × Nat)) (sh i : Nat) : psCells (ps ++ [(sh, i)]) = psCells ps ++ placeCs sh i := by simp [psCells]
theorem lay_next {w0 w : World} {U : Nat} {vP : Value} {ps : List (Nat × Nat)} {d : Nat} {us : List Nat} (h : LayAt w0 w U vP ps d us) (d' sh i x : Nat) (hd : d' ≤ 8) (hi : i * 2 ^ sh / 64 < 8) (hx : us.getD (i * 2 ^ sh / 64) 0 ||| ((2 ^ (2 ^ sh) - 1) * 2 ^ (i * 2 ^ sh % 64)) = x) (hx2 : x < 18446744073709551616) (T L : Obj) {w2 : World} {g cap : Nat}
    (ho : w2.ownsRow w0.heap.size 112 4 (.slice (some ⟨g, 0, none⟩) (ps.length + 1) cap) (ps.length + 1) (psCells ps ++ placeCs sh i)) (hg : (((w.setCell ⟨U, i * 2 ^ sh / 64, none⟩ (.int .u64 (x : Int))).alloc T).alloc L).grownBy w2 vP.ownBlock) (hat : vP.ownBlock = some g ∨ g = (((w.setCell ⟨U, i * 2 ^ sh / 64, none⟩ (.int .u64 (x : Int))).alloc T).alloc L).heap.size) :
    LayAt w0 w2 U (.slice (some ⟨g, 0, none⟩) (ps.length + 1) cap) (ps ++ [(sh, i)]) d' (markN us sh i) := by
  have hUw := h.u1
  have hb : Below (w.setCell ⟨U, i * 2 ^ sh / 64, none⟩ (.int .u64 (x : Int))).heap.size (w.setCell ⟨U, i * 2 ^ sh / 64, none⟩ (.int .u64 (x : Int))) (((w.setCell ⟨U, i * 2 ^ sh / 64, none⟩ (.int .u64 (x : Int))).alloc T).alloc L) := ((Below.refl _ _).alloc (Nat.le_refl _) _).alloc (by simp) _
  have hU0 : U < (w.setCell ⟨U, i * 2 ^ sh / 64, none⟩ (.int .u64 (x : Int))).heap.size := by simpa using hUw
  have hU1 : U < (((w.setCell ⟨U, i * 2 ^ sh / 64, none⟩ (.int .u64 (x : Int))).alloc T).alloc L).heap.size := Nat.lt_of_lt_of_le hU0 hb.size
  have hfar : ∀ p, w2.cell? ⟨U, p, none⟩ = (w.setCell ⟨U, i * 2 ^ sh / 64, none⟩ (.int .u64 (x : Int))).cell? ⟨U, p, none⟩ := fun p => (hg.cell_far ⟨U, p, none⟩ hU1 (fun e => h.ne e.symm)).trans (hb.cell (p := ⟨U, p, none⟩) hU0)
  have hffar : ∀ p, p < 8 → w2.frozen? ⟨U, p, none⟩ = false := fun p hp => by
    rw [hg.frozen_far ⟨U, p, none⟩ hU1 (fun e => h.ne e.symm), hb.frozen (p := ⟨U, p, none⟩) hU0, World.frozen?_setCell]
    exact h.fu p hp
  have hgt : ∀ p, (markN us sh i).getD p 0 = if p = i * 2 ^ sh / 64 then x else us.getD p 0 := fun p => by
    unfold markN
    rw [hx]
    by_cases hp : p = i * 2 ^ sh / 64
    · rw [if_pos hp, hp, List.getD_eq_getElem?_getD, List.getElem?_set_self (by rw [h.ul]; exact hi)]; rfl
    · rw [if_neg hp, List.getD_eq_getElem?_getD, List.getElem?_set_ne (fun e => hp e.symm), List.getD_eq_getElem?_getD]
  have hbs : Below w0.heap.size w0 (w.setCell ⟨U, i * 2 ^ sh / 64, none⟩ (.int .u64 (x : Int))) := h.bel.setCell h.u0 _
  have hbel : Below w0.heap.size w0 (((w.setCell ⟨U, i * 2 ^ sh / 64, none⟩ (.int .u64 (x : Int))).alloc T).alloc L) := hbs.trans (hb.mono hbs.size)
  refine ⟨hbel.grown hg hbel.size (fun k hk => (h.own.lt k hk).1), ?_, ?_, hffar, ?_, ?_, ?_, h.u0, Nat.lt_of_lt_of_le hU1 hg.size, hd⟩
  · rw [psCells_snoc, List.length_append]; exact ho
  · intro p hp
    rw [hfar, hgt]
    by_cases hpi : p = i * 2 ^ sh / 64
    · rw [if_pos hpi, hpi]
      exact cell_same _ _ _ _ _ (h.cu _ hi)
    · rw [if_neg hpi, cell_other _ _ _ _ _ (by omega)]
      exact h.cu p hp
  · unfold markN; rw [List.length_set]; exact h.ul
  · intro p
    rw [hgt]; split
    · exact hx2
    · exact h.ub p
  · intro e
    have e2 : g = U := Option.some.inj e
    rcases hat with h1 | h1
    · rw [e2] at h1; exact h.ne h1
    · omega

theorem off_le {sh i : Nat} (hsh : ShOK sh) : i * 2 ^ sh % 64 + 2 ^ sh ≤ 64 := by
  rcases hsh with rfl | rfl | rfl | rfl | rfl <;> omega
theorem pp_eq {sh d : Nat} (hsh : ShOK sh) : d * (64 / 2 ^ sh) * 2 ^ sh = d * 64 := by
  rcases hsh with rfl | rfl | rfl | rfl | rfl <;> omega
theorem mask_lt {sh off : Nat} (hsh : ShOK sh) (hoff : off + 2 ^ sh ≤ 64) : (2 ^ (2 ^ sh) - 1) * 2 ^ off < 18446744073709551616 := by
  have h1 : (2 ^ (2 ^ sh) - 1) * 2 ^ off ≤ 2 ^ (2 ^ sh) * 2 ^ off - 2 ^ off := by rw [Nat.sub_mul, Nat.one_mul]; exact Nat.le_refl _
  have h2 : 2 ^ (2 ^ sh) * 2 ^ off ≤ 2 ^ 64 := by rw [← Nat.pow_add]; exact Nat.pow_le_pow_right (by omega) (by omega)
  have h3 : 0 < 2 ^ off := Nat.two_pow_pos off
  have h4 : 0 < 2 ^ (2 ^ sh) * 2 ^ off := Nat.mul_pos (Nat.two_pow_pos _) h3
  omega
theorem four_one (s i : Int) : ∀ u ∈ [Value.int .u8 s, .int .u16 i, .int .u8 0, .bool false], u.oneCell' = true := by
  intro u hu; simp at hu; rcases hu with rfl | rfl | rfl | rfl <;> rfl
theorem drop_getDN {l : List Nat} {j : Nat} (hj : j < l.length) : l.drop j = l.getD j 0 :: l.drop (j + 1) := by
  rw [List.drop_eq_getElem_cons hj, List.getD_eq_getElem?_getD, List.getElem?_eq_getElem hj]; rfl
theorem lay_some {ps : List (Nat × Nat)} {d : Nat} {us : List Nat} {k i : Nat} {r : List Nat} (h : fitN us d (shOf k) = some i) : layFrom (ps, d, us) (k :: r) = layFrom (ps ++ [(shOf k, i)], d, markN us (shOf k) i) r := by
  simp only [layFrom, layStep, h]
theorem lay_none8 {ps : List (Nat × Nat)} {us : List Nat} {k : Nat} {r : List Nat} (h : fitN us 8 (shOf k) = none) : layFrom (ps, 8, us) (k :: r) = none := by
  simp only [layFrom, layStep, h, if_pos]
theorem lay_new {ps : List (Nat × Nat)} {d : Nat} {us : List Nat} {k : Nat} {r : List Nat} (h : fitN us d (shOf k) = none) (hd : d ≠ 8) : layFrom (ps, d, us) (k :: r) = layFrom (ps ++ [(shOf k, d * (64 / 2 ^ shOf k))], d + 1, markN us (shOf k) (d * (64 / 2 ^ shOf k))) r := by
  simp only [layFrom, layStep, h, if_neg hd]

set_option maxHeartbeats 2000000 in
set_option maxRecDepth 100000 in
theorem layout_any (a : Option Addr) (c : Nat) (kk : List Nat) (w : World) (hT : RowAt w a (tsCells kk)) (hk : ∀ k ∈ kk, k < 11) :
    Calls Fagg.prog 23 #[.slice a kk.length c] w fun e w' => LayPost w (if 16 < kk.length then none else layN kk) e w' := by
  by_cases h16 : 16 < kk.length
  · rw [if_pos h16]
    have d1 : decide ((16 : Int) < (kk.length : Int)) = true := decide_eq_true (by omega)
    go_enter Fagg.func23, Fagg.ntmps23
    go_wp2_with fail
    refine bodyPost_ret (v := .tuple #[.slice none 0 0, .int .u8 0, .int .u8 0, .bool false]) (by simp [results, Fagg.results23, go_sem]) rfl ⟨Below.refl _ _, rfl⟩
  · rw [if_neg h16]
    have d1 : decide ((16 : Int) < (kk.length : Int)) = false := decide_eq_false (by omega)
    have HK := hide hk
    have HT := hide (fun (W : World) (hW : Below w.heap.size w W) => hT.below hW)
    have H16 : Hid (kk.length ≤ 16) := hide (by omega)
    clear hk hT h16
    go_enter Fagg.func23, Fagg.ntmps23
    refine wp_seq_k (fun K0 hK0 => ?_)
    have HC0 := hide hK0
    clear hK0
    go_wp2_with fail
    refine unhide HC0 _ _ ?_
    clear HC0
    refine wp_seq_k (fun K0 hK0 => ?_)
    have HC0 := hide hK0
    clear hK0
    go_wp2_with fail
    refine unhide HC0 _ _ ?_
    clear HC0
    refine wp_seq_k (fun K0 hK0 => ?_)
    have HC0 := hide hK0
    clear hK0
    suffices HFI : Hid (∀ (vP x18 x19 x20 : Value) (x17 : Bool) (w' : World), Below w.heap.size w w' → w'.ownsRow w.heap.size 112 4 vP 0 [] → K0 ⟨#[.slice a kk.length c, undef, vP, .int .u8 0, .int .u8 0, .bool false, undef, undef, undef, undef, undef, undef, .slice a kk.length c, .int .i64 (kk.length : Int), .bool false, .slice a kk.length c, .int .i64 (kk.length : Int), .bool x17, x18, x19, x20, undef, undef, undef, undef, undef, undef, undef, undef, undef, undef, undef, undef, undef, undef, undef, undef, undef, undef, undef, undef, undef, undef, undef, undef, undef, undef, undef, undef, undef, undef, undef, undef, undef, undef, undef, undef, undef, undef, undef, undef, undef, undef, undef, undef, undef, undef, undef, undef, undef, undef, undef, undef, undef, undef, undef, undef, undef, undef, undef, undef, undef, undef, undef, undef, undef], []⟩ w') by
      by_cases h0 : 0 < kk.length
      · have d2 : decide ((0 : Int) < (kk.length : Int)) = true := decide_eq_true (by omega)
        go_wp2_with (refine wpList_make47 rfl _ rfl kk.length rfl (by have := unhide H16; omega) ?_; intro w1 ho1 hb1 hs1)
        exact unhide HFI _ _ _ _ true _ hb1 ho1
      · have d2 : decide ((0 : Int) < (kk.length : Int)) = false := decide_eq_false (by omega)
        go_wp2_with fail
        exact unhide HFI _ _ _ _ false _ (Below.refl _ _) (World.ownsRow_nil _ _ _ _)
    refine hide (fun vP x18 x19 x20 x17 w1 hb1 ho1 => ?_)
    refine unhide HC0 _ _ ?_
    clear HC0
    refine wp_seq_k (fun K0 hK0 => ?_)
    have HC0 := hide hK0
    clear hK0
    go_wp2_with fail
    refine unhide HC0 _ _ ?_
    clear HC0
    have H0 := hide (lay_start w w1 vP 0 hb1 ho1)
    clear hb1 ho1
    have hgen : ∀ (w2 : World) (U : Nat), LayAt w w2 U vP [] 0 (List.replicate 8 0) → True := fun _ _ _ => trivial
    clear hgen
    revert H0
    generalize w1.alloc (.cells #[.int .u64 0, .int .u64 0, .int .u64 0, .int .u64 0, .int .u64 0, .int .u64 0, .int .u64 0, .int .u64 0] 121) = w2
    generalize w1.heap.size = U
    intro H0
    go_wp2_with fail
    go_loopg [2, 3, 4, 23] kk.length (fun r s2 s3 s4 s23 wr => ∃ (j : Nat) (ps : List (Nat × Nat)) (d : Nat) (us : List Nat) (vP : Value), r = kk.length - j ∧ j ≤ kk.length ∧ s2 = vP ∧ s3 = .int .u8 (d : Int) ∧ s4 = .int .u8 0 ∧ s23 = .int .i64 (j : Int) ∧ Hid (LayAt w wr U vP ps d us ∧ ps.length = j ∧ layFrom (ps, d, us) (kk.drop j) = layN kk))
    case atStart => exact ⟨0, [], 0, List.replicate 8 0, vP, rfl, Nat.zero_le _, rfl, rfl, rfl, rfl, hide ⟨unhide H0, rfl, rfl⟩⟩
    case round =>
      obtain ⟨j, ps, d, us, vP, rfl, hj, rfl, rfl, rfl, rfl, HR⟩ := hrel
      clear H0
      obtain ⟨hly, hpl, hlf⟩ := unhide HR
      clear HR
      have HPL := hide hpl
      have hpl16 : ps.length ≤ 16 := by have := unhide H16; omega
      clear hpl
      by_cases hjl : j < kk.length
      · have d2 : decide ((j : Int) < (kk.length : Int)) = true := decide_eq_true (by omega)
        obtain ⟨b, o, rfl, t0, t1, t2, t3⟩ := (unhide HT wr hly.bel).kind hjl
        have hk11 : kk.getD j 0 < 11 := unhide HK _ (by rw [List.getD_eq_getElem?_getD, List.getElem?_eq_getElem hjl]; exact List.getElem_mem hjl)
        rw [drop_getDN hjl] at hlf
        generalize kk.getD j 0 = k at *
        have hsh := shOf_ok k
        have HWI := hide (fun W => width_any k hk11 W)
        have d3 : decide ((13 : Int) < (k : Int)) = false := decide_eq_false (by omega)
        have hs64 : 2 ^ shOf k ≤ 64 ∧ 0 < 2 ^ shOf k := by rcases hsh with h | h | h | h | h <;> rw [h] <;> decide
        have hbT := (Below.refl wr.heap.size wr).alloc (Nat.le_refl _) (.cells #[.int .u8 (k : Int), .int .u8 0, .int .u8 0, .int .u8 0] 110)
        have HFT := hide (fit_any U d (shOf k) us (wr.alloc (.cells #[.int .u8 (k : Int), .int .u8 0, .int .u8 0, .int .u8 0] 110)) (fun i hi => (hbT.cell (p := ⟨U, i, none⟩) hly.u1).trans (hly.cu i (by have := hly.d8; omega))) hly.ub hly.d8 hsh)
        have HM : Hid ((18446744073709551615 : Int) / 2 ^ (64 - 2 ^ shOf k) = ((2 ^ (2 ^ shOf k) - 1 : Nat) : Int)) := hide (by rcases hsh with h | h | h | h | h <;> rw [h] <;> decide)
        have e1 : IntKind.u8.wrap (64 - ((2 ^ shOf k : Nat) : Int)) = ((64 - 2 ^ shOf k : Nat) : Int) := by rw [IntKind.wrap_u8]; omega
        have e2 : (((2 ^ shOf k : Nat) : Int) == 0) = false := by rw [beq_eq_false_iff_ne]; omega
        have e3 : IntKind.u16.wrap ((2 ^ shOf k : Nat) : Int) = ((2 ^ shOf k : Nat) : Int) := by rw [IntKind.wrap_u16]; omega
        have b0 : (0 : Int) ≤ (j : Int) := by omega
        have b1 : (j : Int) < (kk.length : Int) := by omega
        have b2 : (0 : Int) ≤ (d : Int) := by omega
        have b3 : (d : Int) ≤ 8 := by have := hly.d8; omega
        have HWJ : Hid (wrap64 ((j : Int) + 1) = ((j + 1 : Nat) : Int)) := hide (by have := unhide H16; unfold wrap64; omega)
        have HJL := hide hjl
        have hU1 := hly.u1
        have HLY := hide hly
        rcases hfit : fitN us d (shOf k) with _ | i
        · rw [hfit] at HFT
          simp only [fitV] at HFT
          by_cases hd8 : d = 8
          · subst hd8
            rw [lay_none8 hfit] at hlf
            have HPO : Hid (LayPost w (layN kk) (.returned (.tuple #[.slice none 0 0, .int .u8 0, .int .u8 0, .bool false])) (wr.alloc (.cells #[.int .u8 (k : Int), .int .u8 0, .int .u8 0, .int .u8 0] 110))) := hide (by rw [← hlf]; exact ⟨hly.bel.trans (hbT.mono hly.bel.size), rfl⟩)
            clear hly hlf HM hfit hbT HT
            generalize 2 ^ shOf k = s2 at *
            go_wp2_with (first | (go_at_call 58; with_reducible refine (unhide HWI _).mono ?_; rintro ee w3 ⟨rfl, hw3⟩; subst hw3) | (go_at_call 59; with_reducible refine (unhide HFT).mono ?_; rintro ee w4 ⟨rfl, hw4⟩; subst hw4))
            refine bodyPost_ret (v := .tuple #[.slice none 0 0, .int .u8 0, .int .u8 0, .bool false]) (by simp [results, Fagg.results23, go_sem]) rfl (unhide HPO)
          · skip
            rw [lay_new hfit hd8] at hlf
            have HLF := hide hlf
            have hd7 := hly.d8
            have hPP : d * (64 / 2 ^ shOf k) * 2 ^ shOf k = d * 64 := by
              exact pp_eq hsh
            obtain ⟨i, hi⟩ : ∃ i, d * (64 / 2 ^ shOf k) = i := ⟨_, rfl⟩
            rw [hi] at hPP HLF
            obtain ⟨idx, HIDX⟩ : ∃ x : Nat, Hid (d = x) := ⟨d, hide rfl⟩
            obtain ⟨off, HOFF⟩ : ∃ x : Nat, Hid (0 = x) := ⟨0, hide rfl⟩
            have hI : i * 2 ^ shOf k / 64 = idx := by have := unhide HIDX; omega
            have hO : i * 2 ^ shOf k % 64 = off := by have := unhide HOFF; omega
            have hidx : idx < 8 := by have := unhide HIDX; omega
            have hoff : off + 2 ^ shOf k ≤ 64 := by have := unhide HOFF; omega
            have w1 : IntKind.u16.wrap (d : Int) = (d : Int) := by rw [IntKind.wrap_u16]; omega
            have w2 : IntKind.u16.wrap ((d : Int) * 64) = (d : Int) * 64 := by rw [IntKind.wrap_u16]; omega
            have w3 : IntKind.u8.wrap ((d : Int) + 1) = (d : Int) + 1 := by rw [IntKind.wrap_u8]; omega
            have w4 : ((d : Int) == 8) = false := by rw [beq_eq_false_iff_ne]; omega
            have q1 : ((d : Int) * 64).tdiv 64 = (idx : Int) := by have := unhide HIDX; rw [Int.tdiv_eq_ediv_of_nonneg (by omega)]; omega
            have q2 : ((d : Int) * 64).tmod 64 = (off : Int) := by have := unhide HOFF; rw [Int.tmod_eq_emod_of_nonneg (by omega)]; omega
            have q3 : ((d : Int) * 64).tdiv ((2 ^ shOf k : Nat) : Int) = (i : Int) := by
              rw [show (d : Int) * 64 = ((i * 2 ^ shOf k : Nat) : Int) by omega, Int.tdiv_eq_ediv_of_nonneg (by omega)]
              have : i * 2 ^ shOf k / 2 ^ shOf k = i := Nat.mul_div_cancel _ hs64.2
              omega
            have hx0 := hly.ub idx
            have hMM : (2 ^ (2 ^ shOf k) - 1) * 2 ^ off < 18446744073709551616 := mask_lt hsh hoff
            have hn := fun (T L : Obj) (w5 : World) (g cap : Nat) => @lay_next w wr U u2 ps d us hly (d + 1) (shOf k) i (us.getD idx 0 ||| ((2 ^ (2 ^ shOf k) - 1) * 2 ^ off)) (by have := hly.d8; omega) (by rw [hI]; exact hidx) (by rw [hI, hO]) (Nat.or_lt_two_pow (n := 64) hx0 hMM) T L w5 g cap
            rw [hI] at hn
            have hcx := (hbT.cell (p := ⟨U, idx, none⟩) hly.u1).trans (hly.cu idx hidx)
            have hcf := (hbT.frozen (p := ⟨U, idx, none⟩) hly.u1).trans (hly.fu idx hidx)
            have hor := u64_or_nat (us.getD idx 0) ((2 ^ (2 ^ shOf k) - 1) * 2 ^ off) hx0 hMM
            have hshl : IntKind.u64.wrap (((2 ^ (2 ^ shOf k) - 1 : Nat) : Int) * 2 ^ off) = (((2 ^ (2 ^ shOf k) - 1) * 2 ^ off : Nat) : Int) := by
              rw [IntKind.wrap_u64, show (((2 ^ (2 ^ shOf k) - 1 : Nat) : Int) * 2 ^ off) = (((2 ^ (2 ^ shOf k) - 1) * 2 ^ off : Nat) : Int) by push_cast; rfl]
              omega
            have hM := unhide HM
            have mk64 : min (64 - 2 ^ shOf k) 64 = 64 - 2 ^ shOf k := Nat.min_eq_left (by omega)
            have wi : IntKind.u16.wrap (i : Int) = (i : Int) := by
              have : i * 1 ≤ i * 2 ^ shOf k := Nat.mul_le_mul_left _ hs64.2
              rw [IntKind.wrap_u16]; omega
            have hs0 : ((2 ^ shOf k : Nat) : Int) ≠ 0 := by omega
            have hs1 : (2 ^ shOf k : Nat) ≠ 0 := by omega
            have moff : min off 64 = off := Nat.min_eq_left (by omega)
            have b4 : (0 : Int) ≤ (idx : Int) := by omega
            have b5 : (idx : Int) < 8 := by omega
            generalize us.getD idx 0 ||| ((2 ^ (2 ^ shOf k) - 1) * 2 ^ off) = xr at *
            generalize (2 ^ (2 ^ shOf k) - 1) * 2 ^ off = MM at *
            generalize 2 ^ (2 ^ shOf k) - 1 = M at *
            generalize us.getD idx 0 = x at *
            have HOW := hide (fun (L : Obj) => ((ownsRow_setCell_other (a := ⟨U, idx, none⟩) hly.own hly.ne (.int .u64 (xr : Int))).alloc (.cells #[.int .u8 (k : Int), .int .u8 0, .int .u8 0, .int .u8 0] 110)).alloc L)
            have HSZ : Hid (w.heap.size ≤ wr.heap.size) := hide hly.bel.size
            unfold placeCs at hn
            generalize shOf k = sh at *
            generalize 2 ^ sh = s2 at *
            have HNW : Hid (∀ (jj : Nat) (u : Value), [Value.int .u8 (s2 : Int), .int .u16 (i : Int), .int .u8 0, .bool false][jj]? = some u → (((wr.setCell ⟨U, idx, none⟩ (.int .u64 (xr : Int))).alloc (.cells #[.int .u8 (k : Int), .int .u8 0, .int .u8 0, .int .u8 0] 110)).alloc (.cells #[.int .u8 (s2 : Int), .int .u16 (i : Int), .int .u8 0, .bool false] 112)).cell? ((⟨wr.heap.size + 1, 0, none⟩ : Addr).add jj) = some u) := hide (by
              have h := news_alloc ((wr.setCell ⟨U, idx, none⟩ (.int .u64 (xr : Int))).alloc (.cells #[.int .u8 (k : Int), .int .u8 0, .int .u8 0, .int .u8 0] 110)) #[.int .u8 (s2 : Int), .int .u16 (i : Int), .int .u8 0, .bool false] 112
              rw [show ((wr.setCell ⟨U, idx, none⟩ (.int .u64 (xr : Int))).alloc (.cells #[.int .u8 (k : Int), .int .u8 0, .int .u8 0, .int .u8 0] 110)).heap.size = wr.heap.size + 1 by simp] at h
              exact h)
            generalize 64 - s2 = k64 at *
            have HN := hide (hn (.cells #[.int .u8 (k : Int), .int .u8 0, .int .u8 0, .int .u8 0] 110) (.cells #[.int .u8 (s2 : Int), .int .u16 (i : Int), .int .u8 0, .bool false] 112))
            clear hn hMM hx0 hI hO hidx hoff hly hlf hfit hbT HT HM hsh hs64
            obtain ⟨i0, hi0, hz0, hz1, hz2⟩ := info_parts info112
            have hmx : ps.length + 1 ≤ maxLen := by unfold maxLen; omega
            have hby : (ps.length + 1) * 6 ≤ 140737488355328 := by omega
            go_wp2_with (first | (go_at_call 58; with_reducible refine (unhide HWI _).mono ?_; rintro ee w3 ⟨rfl, hw3⟩; subst hw3) | (go_at_call 59; with_reducible refine (unhide HFT).mono ?_; rintro ee w4 ⟨rfl, hw4⟩; subst hw4) | (at_builtin; refine wpList_append_lies _ rfl _ _ 47 rfl w.heap.size 112 i0 (.agg #[.int .u8 0, .int .u16 0, .int .u8 0, .bool false]) 4 6 Fagg.underlying47 hi0 hz0 hz1 hz2 rfl (by decide) u2 ps.length (psCells ps) rfl (unhide HOW _) ⟨wr.heap.size + 1, 0, none⟩ 1 1 [.int .u8 (s2 : Int), .int .u16 (i : Int), .int .u8 0, .bool false] rfl rfl (unhide HNW) (four_one _ _) (by omega) hmx hby (by have := unhide HSZ; simp; omega) (wr.heap.size + 2) (by simp) ?_; intro b5 cap5 w5 ho5 hg5 hat5 hlt5; have H5 := hide (unhide HN w5 b5 cap5 ho5 hg5 (hat5.imp (fun x => x) (fun x => x.trans (by simp)))); clear ho5 hg5 hat5))
            go_roundg (kk.length - (j + 1))
            case measure => have := unhide HJL; omega
            case rel => exact ⟨j + 1, ps ++ [(sh, i)], d + 1, markN us sh i, _, rfl, unhide HJL, rfl, by first | rfl | simp, rfl, by first | rw [unhide HWJ] | simp, hide ⟨unhide H5, by simp [unhide HPL], unhide HLF⟩⟩
        · skip
          obtain ⟨hib, _⟩ := fitN_lt hfit hsh
          rw [hfit] at HFT
          simp only [fitV] at HFT
          rw [lay_some hfit] at hlf
          have HLF := hide hlf
          have hd8 := hly.d8
          obtain ⟨idx, hI⟩ : ∃ x, i * 2 ^ shOf k / 64 = x := ⟨_, rfl⟩
          obtain ⟨off, hO⟩ : ∃ x, i * 2 ^ shOf k % 64 = x := ⟨_, rfl⟩
          have hidx : idx < 8 := by omega
          have hoff : off + 2 ^ shOf k ≤ 64 := by
            rw [← hO]; exact off_le hsh
          have q1 : ((i * 2 ^ shOf k : Nat) : Int).tdiv 64 = (idx : Int) := by rw [Int.tdiv_eq_ediv_of_nonneg (by omega)]; omega
          have q2 : ((i * 2 ^ shOf k : Nat) : Int).tmod 64 = (off : Int) := by rw [Int.tmod_eq_emod_of_nonneg (by omega)]; omega
          have q3 : ((i * 2 ^ shOf k : Nat) : Int).tdiv ((2 ^ shOf k : Nat) : Int) = (i : Int) := by
            rw [Int.tdiv_eq_ediv_of_nonneg (by omega)]
            have : i * 2 ^ shOf k / 2 ^ shOf k = i := Nat.mul_div_cancel _ hs64.2
            omega
          generalize i * 2 ^ shOf k = bit at q1 q2 q3 HFT
          have hx0 := hly.ub idx
          have hMM : (2 ^ (2 ^ shOf k) - 1) * 2 ^ off < 18446744073709551616 := mask_lt hsh hoff
          have hn := fun (T L : Obj) (w5 : World) (g cap : Nat) => @lay_next w wr U u2 ps d us hly d (shOf k) i (us.getD idx 0 ||| ((2 ^ (2 ^ shOf k) - 1) * 2 ^ off)) (by have := hly.d8; omega) (by rw [hI]; exact hidx) (by rw [hI, hO]) (Nat.or_lt_two_pow (n := 64) hx0 hMM) T L w5 g cap
          rw [hI] at hn
          have hcx := (hbT.cell (p := ⟨U, idx, none⟩) hly.u1).trans (hly.cu idx hidx)
          have hcf := (hbT.frozen (p := ⟨U, idx, none⟩) hly.u1).trans (hly.fu idx hidx)
          have hor := u64_or_nat (us.getD idx 0) ((2 ^ (2 ^ shOf k) - 1) * 2 ^ off) hx0 hMM
          have hshl : IntKind.u64.wrap (((2 ^ (2 ^ shOf k) - 1 : Nat) : Int) * 2 ^ off) = (((2 ^ (2 ^ shOf k) - 1) * 2 ^ off : Nat) : Int) := by
            rw [IntKind.wrap_u64, show (((2 ^ (2 ^ shOf k) - 1 : Nat) : Int) * 2 ^ off) = (((2 ^ (2 ^ shOf k) - 1) * 2 ^ off : Nat) : Int) by push_cast; rfl]
            omega
          have hM := unhide HM
          have mk64 : min (64 - 2 ^ shOf k) 64 = 64 - 2 ^ shOf k := Nat.min_eq_left (by omega)
          have wi : IntKind.u16.wrap (i : Int) = (i : Int) := by
            have : i * 1 ≤ i * 2 ^ shOf k := Nat.mul_le_mul_left _ hs64.2
            rw [IntKind.wrap_u16]; omega
          have hs0 : ((2 ^ shOf k : Nat) : Int) ≠ 0 := by omega
          have hs1 : (2 ^ shOf k : Nat) ≠ 0 := by omega
          have moff : min off 64 = off := Nat.min_eq_left (by omega)
          have b4 : (0 : Int) ≤ (idx : Int) := by omega
          have b5 : (idx : Int) < 8 := by omega
          generalize us.getD idx 0 ||| ((2 ^ (2 ^ shOf k) - 1) * 2 ^ off) = xr at *
          generalize (2 ^ (2 ^ shOf k) - 1) * 2 ^ off = MM at *
          generalize 2 ^ (2 ^ shOf k) - 1 = M at *
          generalize us.getD idx 0 = x at *
          have HOW := hide (fun (L : Obj) => ((ownsRow_setCell_other (a := ⟨U, idx, none⟩) hly.own hly.ne (.int .u64 (xr : Int))).alloc (.cells #[.int .u8 (k : Int), .int .u8 0, .int .u8 0, .int .u8 0] 110)).alloc L)
          have HSZ : Hid (w.heap.size ≤ wr.heap.size) := hide hly.bel.size
          unfold placeCs at hn
          generalize shOf k = sh at *
          generalize 2 ^ sh = s2 at *
          have HNW : Hid (∀ (jj : Nat) (u : Value), [Value.int .u8 (s2 : Int), .int .u16 (i : Int), .int .u8 0, .bool false][jj]? = some u → (((wr.setCell ⟨U, idx, none⟩ (.int .u64 (xr : Int))).alloc (.cells #[.int .u8 (k : Int), .int .u8 0, .int .u8 0, .int .u8 0] 110)).alloc (.cells #[.int .u8 (s2 : Int), .int .u16 (i : Int), .int .u8 0, .bool false] 112)).cell? ((⟨wr.heap.size + 1, 0, none⟩ : Addr).add jj) = some u) := hide (by
            have h := news_alloc ((wr.setCell ⟨U, idx, none⟩ (.int .u64 (xr : Int))).alloc (.cells #[.int .u8 (k : Int), .int .u8 0, .int .u8 0, .int .u8 0] 110)) #[.int .u8 (s2 : Int), .int .u16 (i : Int), .int .u8 0, .bool false] 112
            rw [show ((wr.setCell ⟨U, idx, none⟩ (.int .u64 (xr : Int))).alloc (.cells #[.int .u8 (k : Int), .int .u8 0, .int .u8 0, .int .u8 0] 110)).heap.size = wr.heap.size + 1 by simp] at h
            exact h)
          generalize 64 - s2 = k64 at *
          have HN := hide (hn (.cells #[.int .u8 (k : Int), .int .u8 0, .int .u8 0, .int .u8 0] 110) (.cells #[.int .u8 (s2 : Int), .int .u16 (i : Int), .int .u8 0, .bool false] 112))
          clear hn hMM hx0 hI hO hidx hoff hly hlf hfit hbT HT HM hsh hs64
          obtain ⟨i0, hi0, hz0, hz1, hz2⟩ := info_parts info112
          have hmx : ps.length + 1 ≤ maxLen := by unfold maxLen; omega
          have hby : (ps.length + 1) * 6 ≤ 140737488355328 := by omega
          go_wp2_with (first | (go_at_call 58; with_reducible refine (unhide HWI _).mono ?_; rintro ee w3 ⟨rfl, hw3⟩; subst hw3) | (go_at_call 59; with_reducible refine (unhide HFT).mono ?_; rintro ee w4 ⟨rfl, hw4⟩; subst hw4) | (at_builtin; refine wpList_append_lies _ rfl _ _ 47 rfl w.heap.size 112 i0 (.agg #[.int .u8 0, .int .u16 0, .int .u8 0, .bool false]) 4 6 Fagg.underlying47 hi0 hz0 hz1 hz2 rfl (by decide) u2 ps.length (psCells ps) rfl (unhide HOW _) ⟨wr.heap.size + 1, 0, none⟩ 1 1 [.int .u8 (s2 : Int), .int .u16 (i : Int), .int .u8 0, .bool false] rfl rfl (unhide HNW) (four_one _ _) (by omega) hmx hby (by have := unhide HSZ; simp; omega) (wr.heap.size + 2) (by simp) ?_; intro b5 cap5 w5 ho5 hg5 hat5 hlt5; have H5 := hide (unhide HN w5 b5 cap5 ho5 hg5 (hat5.imp (fun x => x) (fun x => x.trans (by simp)))); clear ho5 hg5 hat5))
          go_roundg (kk.length - (j + 1))
          case measure => have := unhide HJL; omega
          case rel => exact ⟨j + 1, ps ++ [(sh, i)], d, markN us sh i, _, rfl, unhide HJL, rfl, by first | rfl | simp, rfl, by first | rw [unhide HWJ] | simp, hide ⟨unhide H5, by simp [unhide HPL], unhide HLF⟩⟩
      · have hjl2 : j = kk.length := by omega
        have d2 : decide ((j : Int) < (kk.length : Int)) = false := decide_eq_false (by omega)
        rw [hjl2, List.drop_length] at hlf
        have hlf2 : some (ps, d, us) = layN kk := hlf
        obtain ⟨aP, cP, rfl⟩ : ∃ aP cP, u2 = .slice aP ps.length cP := by
          rcases hly.own.2 with ⟨h1, h2⟩ | ⟨g, cap, cur, h1, _⟩
          · exact ⟨none, 0, by rw [h1, h2]⟩
          · exact ⟨_, cap, h1⟩
        have HPO : Hid (LayPost w (layN kk) (.returned (.tuple #[.slice aP ps.length cP, .int .u8 (d : Int), .int .u8 0, .bool true])) wr) := hide (by
          rw [← hlf2]
          refine ⟨hly.bel, aP, cP, rfl, ?_⟩
          rcases hly.own.2 with ⟨h1, h2⟩ | ⟨g, cap, cur, h1, _⟩
          · left
            have := psCells_len ps
            rw [h2] at this
            exact List.length_eq_zero_iff.1 (by omega)
          · have e := h1
            simp only [Value.slice.injEq] at e
            obtain ⟨rfl, _, rfl⟩ := e
            exact row_of_own hly.own)
        clear hly hlf hlf2 hjl2 HT
        go_wp2_with fail
        refine bodyPost_ret (v := .tuple #[.slice aP ps.length cP, .int .u8 (d : Int), .int .u8 0, .bool true]) (by simp [results, Fagg.results23, go_sem]) rfl (unhide HPO)
end Go.Proofs.Ygcfag
