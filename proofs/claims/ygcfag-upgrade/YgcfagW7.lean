/-
  WALKS: segwire.table.
-/
import Derived.Test.YgcfagPlain4
import Derived.Test.YgcfagW1
namespace Go.Proofs.Ygcfag
open Go.RowKit
set_option linter.unusedVariables false
set_option linter.unusedSimpArgs false

theorem i64_wrap (n : Int) (h0 : 0 ≤ n) (h1 : n < 9223372036854775808) : IntKind.i64.wrap n = n := by
  simp [IntKind.wrap, IntKind.bits, IntKind.signed]
  split <;> omega

theorem i64_or_nat (a b : Nat) (ha : a < 4611686018427387904) (hb : b < 4611686018427387904) : bits .or .i64 (a : Int) (b : Int) = ((a ||| b : Nat) : Int) := by
  have hx : a ||| b < 2 ^ 62 := Nat.or_lt_two_pow (by omega) (by omega)
  show IntKind.i64.wrap ((BitVec.ofInt 64 (a : Int) ||| BitVec.ofInt 64 (b : Int)).toNat : Int) = _
  rw [BitVec.toNat_or, ofInt_u64 a (by omega), ofInt_u64 b (by omega), i64_wrap _ (by omega) (by omega)]

theorem i64_or8 (x y : Int) (hx : 0 ≤ x ∧ x < 256) (hy : 0 ≤ y ∧ y < 256) : bits .or .i64 x (y * 256) = x + 256 * y := by
  obtain ⟨a, rfl⟩ := Int.eq_ofNat_of_zero_le hx.1
  obtain ⟨b, rfl⟩ := Int.eq_ofNat_of_zero_le hy.1
  have e : (b : Int) * 256 = ((b * 256 : Nat) : Int) := by omega
  rw [e, i64_or_nat a (b * 256) (by omega) (by omega), Nat.or_comm, nat_join 8 _ _ (by omega) (by omega)]
  omega

theorem entry_eq (xs : List Int) (i : Nat) (h : 2 * i + 2 ≤ xs.length) (hx : Bys xs) : (entry xs i : Int) = xs.getD (2 * i) 0 + 256 * xs.getD (2 * i + 1) 0 := by
  have e : (xs.drop (2 * i)).take 2 = [xs.getD (2 * i) 0, xs.getD (2 * i + 1) 0] := by
    rw [List.drop_eq_getElem_cons (by omega), List.drop_eq_getElem_cons (by omega)]
    show [xs[2 * i], xs[2 * i + 1]] = _
    simp [List.getD, show 2 * i < xs.length by omega, show 2 * i + 1 < xs.length by omega]
  have h1 := hx (2 * i)
  have h2 := hx (2 * i + 1)
  unfold entry
  rw [e]
  simp only [le]
  omega

set_option maxHeartbeats 1000000 in
set_option maxRecDepth 100000 in
theorem table_any (a : Option Addr) (c total : Nat) (xs : List Int) (w : World) (hs : Sl .u8 w a xs) (hn : xs.length = 16) (hx : Bys xs) (ht : total ≤ 256) :
    Calls Fagg.prog 116 #[.slice a 16 c, .int .i64 (total : Int)] w fun e w' => Below w.heap.size w w' ∧
      ((tableOf (entry xs) total = none ∧ ∃ s0 s1 s2 s3 s4 s5 s6 s7 n : Int, e = .returned (.tuple #[.agg #[.int .i64 s0, .int .i64 s1, .int .i64 s2, .int .i64 s3, .int .i64 s4, .int .i64 s5, .int .i64 s6, .int .i64 s7], .int .i64 n, .bool false])) ∨
       ∃ l n, tableOf (entry xs) total = some (l, n) ∧ e = .returned (.tuple #[.agg #[.int .i64 (l.getD 0 0 : Nat), .int .i64 (l.getD 1 0 : Nat), .int .i64 (l.getD 2 0 : Nat), .int .i64 (l.getD 3 0 : Nat), .int .i64 (l.getD 4 0 : Nat), .int .i64 (l.getD 5 0 : Nat), .int .i64 (l.getD 6 0 : Nat), .int .i64 (l.getD 7 0 : Nat)], .int .i64 (n : Nat), .bool true])) := by
  obtain ⟨b, off, rfl, hc⟩ := hs.at (i := 0) (by omega)
  have hbw := World.block_lt_of_cell? w _ (hc 0 (by omega))
  simp only at hbw
  have HC := hide hc
  have HX := hide hx
  have HN := hide hn
  generalize hf : entry xs = f
  have HF := hide hf
  clear hc hx hs hn hf
  go_enter Fagg.func116, Fagg.ntmps116
  go_wp2_with fail
  go_loopw [5, 7, 11] (fun x y z wr => ∃ (k N lf : Nat) (l : List Nat), k ≤ 8 ∧ Hid (tabAt f total k = some (l, N, lf)) ∧ N ≤ k ∧ lf ≤ 256 ∧ l.length = k ∧ x = .int .i64 (N : Int) ∧ y = .int .i64 (lf : Int) ∧ z = .int .i64 (k : Int) ∧
      (∀ j, j < 8 → wr.cell? ⟨w.heap.size, j, none⟩ = some (.int .i64 (l.getD j 0 : Nat))) ∧ (∀ o, wr.frozen? ⟨w.heap.size, o, none⟩ = false) ∧ Below w.heap.size w wr) (fun _ _ z _ => 8 - (intOf z).toNat)
  case atStart =>
    refine ⟨0, 0, total, [], by omega, rfl, by omega, by omega, rfl, rfl, rfl, rfl, fun j hj => ?_, fun o => by simp, (Below.refl _ _).alloc (Nat.le_refl _) _⟩
    match j, hj with
    | 0, _ => simp
    | 1, _ => simp
    | 2, _ => simp
    | 3, _ => simp
    | 4, _ => simp
    | 5, _ => simp
    | 6, _ => simp
    | 7, _ => simp
  case round =>
    obtain ⟨k, N, lf, l, hk, HT, hN, hlf, hll, rfl, rfl, rfl, hcell, hfr, hbr⟩ := hrel
    by_cases hlt : k < 8
    · have hlt' : (k : Int) < 8 := by omega
      have hcl : ∀ j, j < 16 → wr.cell? ⟨b, off + j, none⟩ = some (.int .u8 (xs.getD j 0)) := fun j hj => (hbr.cell (p := ⟨b, off + j, none⟩) hbw).trans (unhide HC j (by rw [unhide HN]; exact hj))
      have c0 := hcl (2 * k) (by omega)
      have c1 := hcl (2 * k + 1) (by omega)
      have b0 := unhide HX (2 * k)
      have b1 := unhide HX (2 * k + 1)
      have HE := hide (entry_eq xs k (by rw [unhide HN]; omega) (unhide HX))
      rw [unhide HF] at HE
      generalize xs.getD (2 * k) 0 = x0 at *
      generalize xs.getD (2 * k + 1) 0 = x1 at *
      have HO := hide (i64_or8 x0 x1 b0 b1)
      have HCL := hide hcell
      clear hcl hcell
      go_wp2_with fail
      go_quiet (fail)
      rw [unhide HO, ← unhide HE]
      have hbr2 := hbr.trans ((drewN_below wr nq).mono hbr.size)
      replace hfr : ∀ o, (wr.drewN nq).frozen? ⟨w.heap.size, o, none⟩ = false := hfr
      have hcell : ∀ j, j < 8 → (wr.drewN nq).cell? ⟨w.heap.size, j, none⟩ = some (.int .i64 (l.getD j 0 : Nat)) := unhide HCL
      clear HCL hbr
      generalize wr.drewN nq = W at *
      have hEb : (f k : Int) ≤ 65535 := by have := unhide HE; omega
      generalize hE : f k = E at *
      have HEQ := hide hE
      clear hE HE HO
      by_cases hE0 : E = 0
      · have e0 : ((E : Int) == 0) = true := by simp; omega
        have HT2 := hide (tabAt_zero (unhide HT) ((unhide HEQ).trans hE0))
        have HCL := hide hcell
        clear hE0 hcell
        go_wp2_with fail
        refine ⟨⟨k + 1, N, lf, l ++ [0], by omega, HT2, by omega, by omega, by simp [hll], rfl, rfl, by go_num, fun j hj => ?_, hfr, hbr2⟩, by simp [intOf]; omega⟩
        rw [unhide HCL j hj, getD_snoc]
        split
        · rename_i hj2
          rw [hj2, List.getD_eq_getElem?_getD, List.getElem?_eq_none (by omega)]; rfl
        · rfl
      · have e0 : ((E : Int) == 0) = false := by simp; omega
        by_cases hb1 : N < k
        · have hb1' : (N : Int) < (k : Int) := by omega
          have HT2 := hide (tabAt_bad (unhide HT) (by rw [unhide HEQ]; exact hE0) (.inl hb1))
          have d0 := hcell 0 (by omega)
          have d1 := hcell 1 (by omega)
          have d2 := hcell 2 (by omega)
          have d3 := hcell 3 (by omega)
          have d4 := hcell 4 (by omega)
          have d5 := hcell 5 (by omega)
          have d6 := hcell 6 (by omega)
          have d7 := hcell 7 (by omega)
          generalize ((l.getD 0 0 : Nat) : Int) = s0 at *
          generalize ((l.getD 1 0 : Nat) : Int) = s1 at *
          generalize ((l.getD 2 0 : Nat) : Int) = s2 at *
          generalize ((l.getD 3 0 : Nat) : Int) = s3 at *
          generalize ((l.getD 4 0 : Nat) : Int) = s4 at *
          generalize ((l.getD 5 0 : Nat) : Int) = s5 at *
          generalize ((l.getD 6 0 : Nat) : Int) = s6 at *
          generalize ((l.getD 7 0 : Nat) : Int) = s7 at *
          clear hcell
          go_wp2
          refine bodyPost_ret (v := .tuple #[.agg #[.int .i64 s0, .int .i64 s1, .int .i64 s2, .int .i64 s3, .int .i64 s4, .int .i64 s5, .int .i64 s6, .int .i64 s7], .int .i64 0, .bool false]) ?_ rfl ⟨?_, .inl ⟨?_, s0, s1, s2, s3, s4, s5, s6, s7, 0, rfl⟩⟩
          · simp [results, Fagg.results116, go_sem, d0, d1, d2, d3, d4, d5, d6, d7]
          · exact (((((((hbr2.setCell (Nat.le_refl _) _).setCell (Nat.le_refl _) _).setCell (Nat.le_refl _) _).setCell (Nat.le_refl _) _).setCell (Nat.le_refl _) _).setCell (Nat.le_refl _) _).setCell (Nat.le_refl _) _).setCell (Nat.le_refl _) _
          · unfold tableOf; rw [tabAt_none f total (k + 1) (unhide HT2) 8 (by omega)]
        · have hb1' : ¬ (N : Int) < (k : Int) := by omega
          by_cases hb2 : lf < E - 1
          · have hb2' : (lf : Int) < (E : Int) - 1 := by omega
            have HT2 := hide (tabAt_bad (unhide HT) (by rw [unhide HEQ]; exact hE0) (.inr (by rw [unhide HEQ]; exact hb2)))
            have d0 := hcell 0 (by omega)
            have d1 := hcell 1 (by omega)
            have d2 := hcell 2 (by omega)
            have d3 := hcell 3 (by omega)
            have d4 := hcell 4 (by omega)
            have d5 := hcell 5 (by omega)
            have d6 := hcell 6 (by omega)
            have d7 := hcell 7 (by omega)
            generalize ((l.getD 0 0 : Nat) : Int) = s0 at *
            generalize ((l.getD 1 0 : Nat) : Int) = s1 at *
            generalize ((l.getD 2 0 : Nat) : Int) = s2 at *
            generalize ((l.getD 3 0 : Nat) : Int) = s3 at *
            generalize ((l.getD 4 0 : Nat) : Int) = s4 at *
            generalize ((l.getD 5 0 : Nat) : Int) = s5 at *
            generalize ((l.getD 6 0 : Nat) : Int) = s6 at *
            generalize ((l.getD 7 0 : Nat) : Int) = s7 at *
            clear hcell
            go_wp2
            refine bodyPost_ret (v := .tuple #[.agg #[.int .i64 s0, .int .i64 s1, .int .i64 s2, .int .i64 s3, .int .i64 s4, .int .i64 s5, .int .i64 s6, .int .i64 s7], .int .i64 0, .bool false]) ?_ rfl ⟨?_, .inl ⟨?_, s0, s1, s2, s3, s4, s5, s6, s7, 0, rfl⟩⟩
            · simp [results, Fagg.results116, go_sem, d0, d1, d2, d3, d4, d5, d6, d7]
            · exact (((((((hbr2.setCell (Nat.le_refl _) _).setCell (Nat.le_refl _) _).setCell (Nat.le_refl _) _).setCell (Nat.le_refl _) _).setCell (Nat.le_refl _) _).setCell (Nat.le_refl _) _).setCell (Nat.le_refl _) _).setCell (Nat.le_refl _) _
            · unfold tableOf; rw [tabAt_none f total (k + 1) (unhide HT2) 8 (by omega)]
          · have hb2' : ¬ (lf : Int) < (E : Int) - 1 := by omega
            have HT2 := hide (tabAt_next (unhide HT) (by rw [unhide HEQ]; exact hE0) (by rw [unhide HEQ]; omega))
            rw [unhide HEQ] at HT2
            have hck := hcell k hlt
            have hE1 : 1 ≤ (E : Int) := by omega
            have HCL := hide hcell
            clear hcell hE0
            go_wp2_with fail
            refine ⟨⟨k + 1, N + 1, lf - (E - 1), l ++ [E - 1], by omega, HT2, by omega, by omega, by simp [hll], by go_num, congrArg (Value.int IntKind.i64) (by omega), by go_num, fun j hj => ?_, fun o => ?_, hbr2.setCell (Nat.le_refl _) _⟩, by simp [intOf]; omega⟩
            · rw [getD_snoc]
              split
              · rename_i hj2
                obtain rfl : j = k := by omega
                rw [World.cell?_setCell_same _ _ _ hck]
                exact congrArg (fun x : Int => some (Value.int IntKind.i64 x)) (by omega)
              · rw [World.cell?_setCell_other _ _ _ _ (by simp <;> omega)]
                exact unhide HCL j hj
            · rw [World.frozen?_setCell]; exact hfr o
    · have hlt' : ¬ (k : Int) < 8 := by omega
      obtain rfl : k = 8 := by omega
      have d0 := hcell 0 (by omega)
      have d1 := hcell 1 (by omega)
      have d2 := hcell 2 (by omega)
      have d3 := hcell 3 (by omega)
      have d4 := hcell 4 (by omega)
      have d5 := hcell 5 (by omega)
      have d6 := hcell 6 (by omega)
      have d7 := hcell 7 (by omega)
      clear hcell hll
      have HTB := hide (fun (h1 : lf = 0) (h2 : 0 < l.getD 0 0) => show tableOf f total = some (l, N) by unfold tableOf; rw [unhide HT]; simp only; rw [if_pos ⟨h1, h2⟩])
      have HTN := hide (fun (h1 : ¬ (lf = 0 ∧ 0 < l.getD 0 0)) => show tableOf f total = none by unfold tableOf; rw [unhide HT]; simp only; rw [if_neg h1])
      generalize hq0 : l.getD 0 0 = q0 at *
      have Q0 := hide hq0
      clear hq0
      generalize hq1 : l.getD 1 0 = q1 at *
      have Q1 := hide hq1
      clear hq1
      generalize hq2 : l.getD 2 0 = q2 at *
      have Q2 := hide hq2
      clear hq2
      generalize hq3 : l.getD 3 0 = q3 at *
      have Q3 := hide hq3
      clear hq3
      generalize hq4 : l.getD 4 0 = q4 at *
      have Q4 := hide hq4
      clear hq4
      generalize hq5 : l.getD 5 0 = q5 at *
      have Q5 := hide hq5
      clear hq5
      generalize hq6 : l.getD 6 0 = q6 at *
      have Q6 := hide hq6
      clear hq6
      generalize hq7 : l.getD 7 0 = q7 at *
      have Q7 := hide hq7
      clear hq7
      by_cases hl0 : lf = 0
      · have e1 : ((lf : Int) == 0) = true := by simp; omega
        by_cases hp : 0 < q0
        · have e2 : (0 : Int) < (q0 : Int) := by omega
          have HR := hide (unhide HTB hl0 hp)
          clear hl0
          go_wp2
          refine bodyPost_ret (v := .tuple #[.agg #[.int .i64 (q0 : Int), .int .i64 (q1 : Int), .int .i64 (q2 : Int), .int .i64 (q3 : Int), .int .i64 (q4 : Int), .int .i64 (q5 : Int), .int .i64 (q6 : Int), .int .i64 (q7 : Int)], .int .i64 (N : Nat), .bool true]) ?_ rfl ⟨?_, .inr ⟨l, N, ?_, ?_⟩⟩
          · simp [results, Fagg.results116, go_sem, d0, d1, d2, d3, d4, d5, d6, d7]
          · exact (((((((hbr.setCell (Nat.le_refl _) _).setCell (Nat.le_refl _) _).setCell (Nat.le_refl _) _).setCell (Nat.le_refl _) _).setCell (Nat.le_refl _) _).setCell (Nat.le_refl _) _).setCell (Nat.le_refl _) _).setCell (Nat.le_refl _) _
          · exact unhide HR
          · rw [← unhide Q0, ← unhide Q1, ← unhide Q2, ← unhide Q3, ← unhide Q4, ← unhide Q5, ← unhide Q6, ← unhide Q7]; simp
        · have e2 : ¬ (0 : Int) < (q0 : Int) := by omega
          have HR := hide (unhide HTN (fun h => hp h.2))
          clear hl0
          go_wp2
          refine bodyPost_ret (v := .tuple #[.agg #[.int .i64 (q0 : Int), .int .i64 (q1 : Int), .int .i64 (q2 : Int), .int .i64 (q3 : Int), .int .i64 (q4 : Int), .int .i64 (q5 : Int), .int .i64 (q6 : Int), .int .i64 (q7 : Int)], .int .i64 (N : Nat), .bool false]) ?_ rfl ⟨?_, .inl ⟨?_, _, _, _, _, _, _, _, _, _, rfl⟩⟩
          · simp [results, Fagg.results116, go_sem, d0, d1, d2, d3, d4, d5, d6, d7]
          · exact (((((((hbr.setCell (Nat.le_refl _) _).setCell (Nat.le_refl _) _).setCell (Nat.le_refl _) _).setCell (Nat.le_refl _) _).setCell (Nat.le_refl _) _).setCell (Nat.le_refl _) _).setCell (Nat.le_refl _) _).setCell (Nat.le_refl _) _
          · exact unhide HR
      · have e1 : ((lf : Int) == 0) = false := by simp; omega
        have HR := hide (unhide HTN (fun h => hl0 h.1))
        clear hl0
        go_wp2
        refine bodyPost_ret (v := .tuple #[.agg #[.int .i64 (q0 : Int), .int .i64 (q1 : Int), .int .i64 (q2 : Int), .int .i64 (q3 : Int), .int .i64 (q4 : Int), .int .i64 (q5 : Int), .int .i64 (q6 : Int), .int .i64 (q7 : Int)], .int .i64 (N : Nat), .bool false]) ?_ rfl ⟨?_, .inl ⟨?_, _, _, _, _, _, _, _, _, _, rfl⟩⟩
        · simp [results, Fagg.results116, go_sem, d0, d1, d2, d3, d4, d5, d6, d7]
        · exact (((((((hbr.setCell (Nat.le_refl _) _).setCell (Nat.le_refl _) _).setCell (Nat.le_refl _) _).setCell (Nat.le_refl _) _).setCell (Nat.le_refl _) _).setCell (Nat.le_refl _) _).setCell (Nat.le_refl _) _).setCell (Nat.le_refl _) _
        · exact unhide HR
end Go.Proofs.Ygcfag
