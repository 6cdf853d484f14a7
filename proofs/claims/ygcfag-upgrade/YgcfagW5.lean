/-
  WALKS: pack.Unpack.
-/
import Derived.Test.YgcfagW4
import Derived.Deep.CutBlock
namespace Go.Proofs.Ygcfag
open Go.RowKit
set_option linter.unusedVariables false
set_option linter.unusedSimpArgs false

theorem own_mono {w : World} {base base' : Nat} {e : TypeId} {size : Nat} {v : Value} {n : Nat} {xs : List Value} (h : w.ownsRow base e size v n xs) (hb : base' ≤ base) : w.ownsRow base' e size v n xs := by
  refine ⟨h.1, ?_⟩
  rcases h.2 with h2 | ⟨g, cap, cur, hv, hg, r⟩
  · exact .inl h2
  · exact .inr ⟨g, cap, cur, hv, by omega, r⟩

def curI (B : Nat) (w : World) : Nat := (intOf ((w.cell? ⟨B, 1, none⟩).getD undef)).toNat

set_option maxHeartbeats 1000000 in
set_option maxRecDepth 100000 in
theorem unpack_tail (R : Ending → World → Prop) (K5 : Act → World → Prop) (hK5 : ∀ a w, Code.wp Fagg.prog (bodyAt Fagg.f120 [1, 1, 1, 1, 1]) (bodyPost Fagg.prog Fagg.f120 R) a w → K5 a w) (a : Option Addr) (n c B : Nat) (xs : List Int) (v : Value) (w : World) (hn : xs.length = n) (hnc : n ≤ c) (hm : (n : Int) ≤ 4096) (hx : Bys xs)
    (hs : xs = [] ∨ ∃ b off, a = some ⟨b, off, none⟩ ∧ b < B ∧ ∀ j, j < xs.length → w.cell? ⟨b, off + j, none⟩ = some (.int .u8 (xs.getD j 0))) (hcur : CurAt B w (.slice a n c) 0 v [])
    (hno : unpackAt xs.length xs [] = none → ∀ w', Below B w w' → R (.returned (.tuple #[.slice none 0 0, .bool false])) w')
    (hyes : ∀ v' out w', unpackAt xs.length xs [] = some out → w'.ownsRow (B + 1) 32 1 v' out.length (out.map (Value.int .u64)) → out.length ≤ 256 → Below B w w' → R (.returned (.tuple #[v', .bool true])) w')
    (u1 u2 u3 u5 u6 u7 u8 u9 u10 u11 u12 u13 u14 u15 u16 u17 u18 u19 u20 u21 u22 u23 u24 u25 u26 u27 : Value) :
    Code.wp Fagg.prog (bodyAt Fagg.f120 [1, 1, 1, 1, 0]) (Exit.then K5 (bodyPost Fagg.prog Fagg.f120 R)) ⟨List.toArray (.slice a n c :: u1 :: u2 :: u3 :: .pointer (some ⟨B, 0, none⟩) :: u5 :: u6 :: u7 :: u8 :: u9 :: u10 :: u11 :: u12 :: u13 :: u14 :: u15 :: u16 :: u17 :: u18 :: u19 :: u20 :: u21 :: u22 :: u23 :: u24 :: u25 :: u26 :: u27 :: []), []⟩ w := by
  conv => arg 2; whnf
  conv at hK5 => enter [a, w, 1, 2]; whnf
  have HNO := hide hno
  have HYES := hide hyes
  have HS := hide hs
  have HX := hide hx
  have HC := hide hcur
  clear hno hyes hs hx hcur
  go_wp2_with fail
  go_loopw [2, 3] (fun x y wr => ∃ (i : Nat) (v : Value) (out : List Int), i ≤ n ∧ CurAt B wr (.slice a n c) i v out ∧ out.length ≤ 256 ∧ Below B w wr ∧ Hid (unpackAt (xs.drop i).length (xs.drop i) out = unpackAt xs.length xs []) ∧ x = u2 ∧ y = u3) (fun _ _ wr => n - curI B wr)
  case atStart => exact ⟨0, v, [], by omega, unhide HC, by simp, Below.refl _ _, rfl, rfl, rfl⟩
  case round =>
    obtain ⟨i, v1, out, hi, hcur, hol, hbr, HU, rfl, rfl⟩ := hrel
    have h0 := hcur.cs
    have h1 := hcur.ci
    have h2 := hcur.cv
    by_cases hlt : i < n
    · have hlt' : (i : Int) < (n : Int) := by omega
      obtain ⟨b, off, rfl, hbB, hcell⟩ : ∃ b off, a = some ⟨b, off, none⟩ ∧ b < B ∧ ∀ j, j < xs.length → w.cell? ⟨b, off + j, none⟩ = some (.int .u8 (xs.getD j 0)) := by
        rcases unhide HS with rfl | h
        · simp at hn; omega
        · exact h
      obtain ⟨t, ht⟩ := Int.eq_ofNat_of_zero_le (unhide HX i).1
      have ht2 := (unhide HX i).2
      have hg0 : (xs.drop i).getD 0 0 = (t : Int) := by rw [← ht]; simp [List.getD]
      have H := step_any B b off n c i (n - i) t (xs.drop i) out v1 wr hcur hbB hm hlt' hnc (by omega) (fun j hj => by
        rw [Nat.add_assoc]
        refine ((hbr.cell (p := ⟨b, off + (i + j), none⟩) hbB).trans (hcell (i + j) (by simp at hj; omega))).trans ?_
        simp [List.getD]) (by simp; omega) (by omega) ((unhide HX).drop i) hg0 (by omega)
      have HST := hide H
      have HT := hide (And.intro ht hg0)
      have hlr := hcur.lt
      clear ht hg0 H hcell ht2
      go_wp2_with (go_at_call 182; refine (unhide HST).mono ?_)
      intro e w' hw'
      rcases hw' with ⟨hst, rfl, hb'⟩ | ⟨k, out', v', hst, rfl, hcur', hb'⟩
      · have HF := hide hst
        clear hst
        go_wp2
        refine unhide HNO ?_ _ (hbr.trans (hb'.mono (by omega)))
        rw [← unhide HU]
        exact unpackAt_fail (by intro e; have := congrArg List.length e; simp at this; omega) (unhide HF)
      · have hbd := stepOf_bd hst
        have HN := hide (unpackAt_step hst)
        have HC' := hide hcur'
        have hci := hcur'.ci
        simp only [List.length_drop] at hbd
        clear hst hcur'
        go_wp2
        go_roundw
        case rel => exact ⟨i + k, v', out', by omega, unhide HC', by omega, hbr.trans hb', by rw [List.drop_drop] at HN; exact (unhide HN).symm.trans (unhide HU), rfl, rfl⟩
        case measure => simp [curI, h1, hci, intOf]; omega
    · have hlt' : ¬ (i : Int) < (n : Int) := by omega
      have HO := hide hcur.own
      obtain ⟨ao, co, rfl⟩ := own_form hcur.own
      go_wp2
      refine unhide HYES _ out _ ?_ (unhide HO) hol hbr
      rw [← unhide HU, List.drop_of_length_le (by omega)]
      simp [unpackAt]

set_option maxHeartbeats 1000000 in
set_option maxRecDepth 100000 in
theorem unpack_any (a : Option Addr) (n c : Nat) (xs : List Int) (w : World) (hs : Sl .u8 w a xs) (hn : xs.length = n) (hnc : n ≤ c) (hm : c ≤ 9223372036854775807) (hx : Bys xs) :
    Calls Fagg.prog 120 #[.slice a n c] w fun e w' => Below w.heap.size w w' ∧ ((unpack xs = none ∧ e = .returned (.tuple #[.slice none 0 0, .bool false])) ∨
      ∃ v out, unpack xs = some out ∧ e = .returned (.tuple #[v, .bool true]) ∧ w'.ownsRow w.heap.size 32 1 v out.length (out.map (Value.int .u64)) ∧ out.length ≤ 256) := by
  by_cases hbig : 4096 < n
  · have hb : (4096 : Int) < (n : Int) := by omega
    have HU := hide (show unpack xs = none by unfold unpack; rw [if_pos (by omega)])
    go_enter Fagg.func120, Fagg.ntmps120
    go_wp2
    go_ret2
    exact ⟨Below.refl _ _, .inl ⟨unhide HU, rfl⟩⟩
  · have hb : ¬ (4096 : Int) < (n : Int) := by omega
    have HU := hide (show unpack xs = unpackAt xs.length xs [] by unfold unpack; rw [if_neg (by omega)])
    have HS := hide hs
    by_cases h0 : n = 0
    · have h0' : ¬ (0 : Int) < (n : Int) := by omega
      have HX := hide (List.eq_nil_of_length_eq_zero (hn.trans h0))
      clear h0
      go_enter Fagg.func120, Fagg.ntmps120
      go_upto_block 0 with fail
      refine unpack_tail _ _ (by assumption) a n c w.heap.size xs (.slice none 0 0) _ hn hnc (by omega) hx (.inl (unhide HX)) ?_ ?_ ?_ _ _ _ _ _ _ _ _ _ _ _ _ _ _ _ _ _ _ _ _ _ _ _ _ _ _
      · refine ⟨?_, ?_, ?_, fun o => ?_, World.ownsRow_nil _ _ _ _⟩ <;> simp
      · intro h w' hb'
        exact ⟨((Below.refl _ _).alloc (Nat.le_refl _) _).trans hb', .inl ⟨(unhide HU).trans h, rfl⟩⟩
      · intro v' out w' h ho hl hb'
        exact ⟨((Below.refl _ _).alloc (Nat.le_refl _) _).trans hb', .inr ⟨v', out, (unhide HU).trans h, rfl, own_mono ho (by omega), hl⟩⟩
    · have h0' : (0 : Int) < (n : Int) := by omega
      obtain ⟨b, off, rfl, hc⟩ := hs.at (i := 0) (by omega)
      have hbw := World.block_lt_of_cell? w _ (hc 0 (by omega))
      simp only at hbw
      have HCC := hide hc
      obtain ⟨i0, hi0, hz0, hz1, hz2⟩ := info_parts info32
      clear hc hs
      have key : ∀ (q : Nat) (w1 : World), w1.ownsRow (w.heap.size + 1) 32 1 (.slice (some ⟨w.heap.size + 1, 0, none⟩) 0 q) 0 [] →
          (w.alloc (Obj.cells #[Value.slice (some ⟨b, off, none⟩) n c, Value.int IntKind.u16 0, Value.slice none 0 0] 306)).grownBy w1 none →
          CurAt w.heap.size (w1.setCell ⟨w.heap.size, 2, none⟩ (.slice (some ⟨w.heap.size + 1, 0, none⟩) 0 q)) (.slice (some ⟨b, off, none⟩) n c) 0 (.slice (some ⟨w.heap.size + 1, 0, none⟩) 0 q) [] ∧
          Below w.heap.size w (w1.setCell ⟨w.heap.size, 2, none⟩ (.slice (some ⟨w.heap.size + 1, 0, none⟩) 0 q)) ∧ w1.cell? ⟨w.heap.size, 2, none⟩ = some (.slice none 0 0) ∧ w1.frozen? ⟨w.heap.size, 2, none⟩ = false := by
        intro q w1 ho hg
        have hbl := hg.block w.heap.size (by simp) (by simp)
        have c0 : w1.cell? ⟨w.heap.size, 0, none⟩ = some (.slice (some ⟨b, off, none⟩) n c) := (World.cell?_of_block (a := ⟨w.heap.size, 0, none⟩) hbl).trans (by simp)
        have c1 : w1.cell? ⟨w.heap.size, 1, none⟩ = some (.int .u16 ((0 : Nat) : Int)) := (World.cell?_of_block (a := ⟨w.heap.size, 1, none⟩) hbl).trans (by simp)
        have c2 : w1.cell? ⟨w.heap.size, 2, none⟩ = some (.slice none 0 0) := (World.cell?_of_block (a := ⟨w.heap.size, 2, none⟩) hbl).trans (by simp)
        have hf : ∀ o, w1.frozen? ⟨w.heap.size, o, none⟩ = false := fun o => (World.frozen?_of_block (a := ⟨w.heap.size, o, none⟩) hbl).trans (by simp)
        refine ⟨CurAt.stored c0 c1 c2 hf (by simpa using ho), ?_, c2, hf 2⟩
        refine Below.setCell (B := w.heap.size) ?_ (p := ⟨w.heap.size, 2, none⟩) (Nat.le_refl _) _
        exact ⟨hg.os, hg.tape, hg.output, by have := hg.size; simp at this; omega, fun k hk => (hg.block k (by simp; omega) (by simp)).trans (Below.heap_alloc _ _ _ hk)⟩
      have KEY := hide key
      clear key
      go_enter Fagg.func120, Fagg.ntmps120
      by_cases hq2 : 256 < n
      · have hq3 : (256 : Int) < (n : Int) := by omega
        go_upto_block 0 with (at_make; refine wpList_make_own _ rfl _ _ 44 rfl (w.heap.size + 1) 32 i0 (.int .u64 0) 1 Fagg.underlying44 hi0 hz0 hz1 _ _ _ 256 rfl rfl rfl ?_ ?_ ?_ ?_)
        all_goals first | omega | (unfold maxLen; omega) | skip
        intro w1 ho hg
        obtain ⟨hcur, hbel, hc2, hf2⟩ := unhide KEY _ w1 ho hg
        have HCU := hide hcur
        clear ho hg hcur
        go_upto_block 0 with fail
        refine unpack_tail _ _ (by assumption) _ n c w.heap.size xs _ _ hn hnc (by omega) hx (.inr ⟨b, off, rfl, hbw, ?_⟩) (unhide HCU) ?_ ?_ _ _ _ _ _ _ _ _ _ _ _ _ _ _ _ _ _ _ _ _ _ _ _ _ _ _
        · intro j hj
          exact (hbel.cell (p := ⟨b, off + j, none⟩) hbw).trans (unhide HCC j hj)
        · intro h w' hb'
          exact ⟨hbel.trans hb', .inl ⟨(unhide HU).trans h, rfl⟩⟩
        · intro v' out w' h ho hl hb'
          exact ⟨hbel.trans hb', .inr ⟨v', out, (unhide HU).trans h, rfl, own_mono ho (by omega), hl⟩⟩
      · have hq3 : ¬ (256 : Int) < (n : Int) := by omega
        go_upto_block 0 with (at_make; refine wpList_make_own _ rfl _ _ 44 rfl (w.heap.size + 1) 32 i0 (.int .u64 0) 1 Fagg.underlying44 hi0 hz0 hz1 _ _ _ n rfl rfl rfl ?_ ?_ ?_ ?_)
        all_goals first | omega | (unfold maxLen; omega) | skip
        intro w1 ho hg
        obtain ⟨hcur, hbel, hc2, hf2⟩ := unhide KEY _ w1 ho hg
        have HCU := hide hcur
        clear ho hg hcur
        go_upto_block 0 with fail
        refine unpack_tail _ _ (by assumption) _ n c w.heap.size xs _ _ hn hnc (by omega) hx (.inr ⟨b, off, rfl, hbw, ?_⟩) (unhide HCU) ?_ ?_ _ _ _ _ _ _ _ _ _ _ _ _ _ _ _ _ _ _ _ _ _ _ _ _ _ _
        · intro j hj
          exact (hbel.cell (p := ⟨b, off + j, none⟩) hbw).trans (unhide HCC j hj)
        · intro h w' hb'
          exact ⟨hbel.trans hb', .inl ⟨(unhide HU).trans h, rfl⟩⟩
        · intro v' out w' h ho hl hb'
          exact ⟨hbel.trans hb', .inr ⟨v', out, (unhide HU).trans h, rfl, own_mono ho (by omega), hl⟩⟩
end Go.Proofs.Ygcfag
