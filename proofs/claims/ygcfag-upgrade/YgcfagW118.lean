/-
  WALKS: law's gets.
-/
import Derived.Test.YgcfagW117
namespace Go.Proofs.Ygcfag
open Go.RowKit
set_option linter.unusedVariables false
set_option linter.unusedSimpArgs false

theorem get_any (a : Option Addr) (n c d sh o : Nat) (xs : List Int) (w : World) (hs : Sl .u64 w a xs) (hn : xs.length = n) (hw : Wds xs) (hd : d ≤ 8) (hl : d + 1 = n) (hsh : ShOK sh) (ho : o * 2 ^ sh < 512) :
    Calls Fagg.prog 65 #[.slice a n c, ptV (rootPt d), .agg #[.int .u8 ((2 ^ sh : Nat) : Int), .int .u16 (o : Int), .int .u8 0, .bool false]] w fun e w' => e = .returned (.int .u64 (fieldOf xs d o sh)) ∧ Below w.heap.size w w' := by
  rcases hsh with rfl | rfl | rfl | rfl | rfl
  · exact get_0 a n c d o 0 xs w hs hn hw hd hl (by omega)
  · exact get_3 a n c d o 0 xs w hs hn hw hd hl (by omega)
  · exact get_4 a n c d o 0 xs w hs hn hw hd hl (by omega)
  · exact get_5 a n c d o 0 xs w hs hn hw hd hl (by omega)
  · exact get_6 a n c d o 0 xs w hs hn hw hd hl (by omega)

theorem und137 : Fagg.prog.underlying 137 = some (.array 2 44) := by kernel_rfl
theorem run_idx0 (a b : Option Addr) (n m c e : Nat) (w : World) : (Instr.index 137 (.agg #[.slice a n c, .slice b m e]) (.int .i64 0)).run Fagg.prog w = .ok (.slice a n c) w := by
  simp [Instr.index, run_underlying und137, asIntOf, go_sem]
theorem run_idx1 (a b : Option Addr) (n m c e : Nat) (w : World) : (Instr.index 137 (.agg #[.slice a n c, .slice b m e]) (.int .i64 1)).run Fagg.prog w = .ok (.slice b m e) w := by
  simp [Instr.index, run_underlying und137, asIntOf, go_sem]
theorem shl_shr {x : Int} {s2 k2 : Nat} (hx : 0 ≤ x) (hs : s2 ≤ 64) (hk : k2 = 64 - s2) : IntKind.u64.wrap (x * 2 ^ k2) / 2 ^ k2 = x % 2 ^ s2 := by
  have h64 : (18446744073709551616 : Int) = 2 ^ s2 * 2 ^ k2 := by
    rw [← Int.pow_add, show s2 + k2 = 64 by omega]; rfl
  have hp : (0 : Int) < 2 ^ k2 := Int.pow_pos (by omega)
  rw [IntKind.wrap_u64, h64, Int.mul_comm x (2 ^ k2), Int.mul_comm (2 ^ s2) (2 ^ k2), Int.mul_emod_mul_of_pos _ _ hp]
  exact Int.mul_ediv_cancel_left _ (by omega)
def wantZ (vs : List Int) (nn j sh : Nat) : Int := if j < nn then vs.getD j 0 % 2 ^ (2 ^ sh) else 0

theorem fieldOf_trim (xs : List Int) (d o sh : Nat) (hl : xs.length = d + 1) : fieldOf ((rootW (trimN (xs.drop 1) d) : Int) :: (xs.drop 1).take (trimN (xs.drop 1) d)) (trimN (xs.drop 1) d) o sh = fieldOf xs d o sh := by
  have hz := trimN_zero (xs.drop 1) d
  have hle := trimN_le (xs.drop 1) d
  generalize trimN (xs.drop 1) d = t at *
  unfold fieldOf
  generalize o * 2 ^ sh = b
  have hg : ∀ i, (xs.drop 1).getD i 0 = xs.getD (1 + i) 0 := fun i => by simp [List.getD_eq_getElem?_getD, List.getElem?_drop, Nat.add_comm]
  by_cases h1 : t * 64 ≤ b
  · rw [if_pos h1]
    by_cases h2 : d * 64 ≤ b
    · rw [if_pos h2]
    · rw [if_neg h2, ← hg, hz (b / 64) (by omega) (by omega)]; simp
  · rw [if_neg h1, if_neg (by omega)]
    congr 2
    rw [show 1 + b / 64 = b / 64 + 1 by omega, List.getD_cons_succ, Nat.add_comm, ← hg]
    simp only [List.getD_eq_getElem?_getD]
    rw [List.getElem?_take_of_lt (by omega)]

/-- An arena that is a root struct, and what its places read. -/
structure ArrOK (w : World) (a : Option Addr) (n d : Nat) (xs : List Int) (qs : List (Nat × Nat)) (vs : List Int) (nn : Nat) : Prop where
  sl : Sl .u64 w a xs
  len : xs.length = n
  wds : Wds xs
  dle : d ≤ 8
  nd : n = d + 1
  root : xs.getD 0 0 = (rootW d : Int)
  rd : ∀ j, j < qs.length → fieldOf xs d (qs.getD j (0, 0)).2 (qs.getD j (0, 0)).1 = wantZ vs nn j (qs.getD j (0, 0)).1
theorem ArrOK.below {w w' : World} {a : Option Addr} {n d : Nat} {xs : List Int} {qs : List (Nat × Nat)} {vs : List Int} {nn : Nat} (h : ArrOK w a n d xs qs vs nn) (hb : Below w.heap.size w w') : ArrOK w' a n d xs qs vs nn :=
  ⟨h.sl.below hb, h.len, h.wds, h.dle, h.nd, h.root, h.rd⟩
theorem wds_trim {xs : List Int} {d : Nat} (hw : Wds xs) (hd : d ≤ 8) : Wds ((rootW (trimN (xs.drop 1) d) : Int) :: (xs.drop 1).take (trimN (xs.drop 1) d)) := by
  have hle := trimN_le (xs.drop 1) d
  generalize trimN (xs.drop 1) d = t at *
  intro i
  cases i with
  | zero => simp only [List.getD_cons_zero]; unfold rootW; split <;> omega
  | succ i =>
    rw [List.getD_cons_succ, List.getD_eq_getElem?_getD, List.getElem?_take]
    split
    · have := hw (1 + i)
      rw [List.getD_eq_getElem?_getD] at this
      rw [List.getElem?_drop]; exact this
    · simp
theorem ArrOK.trim {w w' : World} {a a' : Option Addr} {n d : Nat} {xs : List Int} {qs : List (Nat × Nat)} {vs : List Int} {nn : Nat} (h : ArrOK w a n d xs qs vs nn) (hs : Sl .u64 w' a' ((rootW (trimN (xs.drop 1) d) : Int) :: (xs.drop 1).take (trimN (xs.drop 1) d))) : ArrOK w' a' (trimN (xs.drop 1) d + 1) (trimN (xs.drop 1) d) ((rootW (trimN (xs.drop 1) d) : Int) :: (xs.drop 1).take (trimN (xs.drop 1) d)) qs vs nn :=
  ⟨hs, by
    have := trimN_le (xs.drop 1) d
    have h1 := h.len; have h2 := h.nd
    simp only [List.length_cons, List.length_take, List.length_drop]; omega, wds_trim h.wds h.dle, Nat.le_trans (trimN_le _ _) h.dle, rfl, rfl, fun j hj => (fieldOf_trim xs d _ _ (by rw [h.len, h.nd])).trans (h.rd j hj)⟩

set_option maxHeartbeats 4000000 in
set_option maxRecDepth 100000 in
theorem gets_any (a : Option Addr) (n c d : Nat) (xs : List Int) (aP : Option Addr) (cP : Nat) (qs : List (Nat × Nat)) (aV : Option Addr) (nV cV : Nat) (vs : List Int) (nn : Nat) (w : World) (hA : ArrOK w a n d xs qs vs nn) (hP : RowAt w aP (psCells qs)) (hqs : ∀ p ∈ qs, ShOK p.1 ∧ p.2 * 2 ^ p.1 < 512) (hV : Sl .u64 w aV vs) (hnV : vs.length = nV) (hvs : ∀ x ∈ vs, 0 ≤ x ∧ x < 18446744073709551616) (hql : qs.length ≤ 100) :
    Calls Fagg.prog 25 #[.slice a n c, .slice aP qs.length cP, .slice aV nV cV, .int .i64 (nn : Int)] w fun e w' => e = .returned (.bool true) ∧ Below w.heap.size w w' := by
  have HDE := hide (decode1_any a n c d xs w hA.sl hA.len hA.wds hA.dle hA.nd hA.root)
  have HCA := hide (fun (W : World) (T B cap : Nat) (A : Option Addr) (capd : Nat) (hT : TreeAt W T B cap A d capd (xs.drop 1)) => canon_any T B cap d capd A (xs.drop 1) W hT hA.dle)
  have HTR := hide (fun (W : World) (a' : Option Addr) hs => ArrOK.trim (w' := W) (a' := a') hA hs)
  have HA0 := hide (fun (W : World) (hW : Below w.heap.size w W) => hA.below hW)
  have HVA := hide (fun (W : World) (hW : Below w.heap.size w W) (j : Nat) => value_any aV nV cV j vs W (hV.below hW) hnV)
  have HPR := hide (fun (W : World) (hW : Below w.heap.size w W) => hP.below hW)
  have HQS := hide hqs
  have HVS := hide hvs
  have HQL := hide hql
  have hle := trimN_le (xs.drop 1) d
  clear hA hP hqs hV hnV hvs hql
  generalize ((rootW (trimN (xs.drop 1) d) : Int) :: (xs.drop 1).take (trimN (xs.drop 1) d)) = zs at *
  generalize trimN (xs.drop 1) d = t at *
  go_enter Fagg.func25, Fagg.ntmps25
  refine wp_seq_k (fun K0 hK0 => ?_)
  have HC0 := hide hK0
  clear hK0
  go_wp2_with fail
  refine unhide HC0 _ _ ?_
  clear HC0
  refine wp_seq_k (fun K0 hK0 => ?_)
  have HC0 := hide hK0
  clear hK0
  go_wp2_with (go_at_call 35; with_reducible refine (unhide HDE).mono ?_; rintro ee w1 ⟨T, B, cap, A, capd, rfl, ht1, hb1⟩; have HC1 := hide (unhide HCA w1 T B cap A capd ht1); have HB1 := hide hb1; clear ht1 hb1)
  refine unhide HC0 _ _ ?_
  clear HC0
  clear HDE HCA
  refine wp_seq_k (fun K0 hK0 => ?_)
  have HC0 := hide hK0
  clear hK0
  go_wp2_with fail
  refine unhide HC0 _ _ ?_
  clear HC0
  refine wp_seq_k (fun K0 hK0 => ?_)
  have HC0 := hide hK0
  clear hK0
  go_wp2_with (go_at_call 39; with_reducible refine (unhide HC1).mono ?_; rintro ee w2 ⟨G, capG, rfl, hs2, hb2⟩; have HZ2 := hide (unhide HTR w2 _ hs2); have HB2 := hide ((unhide HB1).trans (hb2.mono (unhide HB1).size)); clear hs2 hb2)
  refine unhide HC0 _ _ ?_
  clear HC0
  clear HC1 HTR HB1
  have HVD := hide (valid1_any (some ⟨G, 0, none⟩) (t + 1) capG t zs w2 (unhide HZ2).sl (unhide HZ2).len (unhide HZ2).wds (unhide HZ2).dle (unhide HZ2).nd (unhide HZ2).root)
  refine wp_seq_k (fun K0 hK0 => ?_)
  have HC0 := hide hK0
  clear hK0
  go_wp2_with (go_at_call 42; with_reducible refine (unhide HVD).mono ?_; rintro ee w3 ⟨rfl, hb3⟩; have HZ3 := hide ((unhide HZ2).below hb3); have HB3 := hide ((unhide HB2).trans (hb3.mono (unhide HB2).size)); clear hb3)
  refine unhide HC0 _ _ ?_
  clear HC0
  clear HZ2 HB2 HVD
  refine wp_seq_k (fun K0 hK0 => ?_)
  have HC0 := hide hK0
  clear hK0
  go_wp2_with fail
  go_loopg [41] 2 (fun r s wr => ∃ k : Nat, r = 2 - k ∧ k ≤ 2 ∧ s = .int .i64 (k : Int) ∧ Hid (Below w.heap.size w wr ∧ ArrOK wr (some ⟨G, 0, none⟩) (t + 1) t zs qs vs nn))
  case atStart => exact ⟨0, rfl, by omega, rfl, hide ⟨unhide HB3, unhide HZ3⟩⟩
  case round =>
    obtain ⟨k, rfl, hk, rfl, HR⟩ := hrel
    clear HB3 HZ3
    obtain ⟨hbr, hzr⟩ := unhide HR
    have har := unhide HA0 wr hbr
    have HV1 := hide (fun (W : World) (hW : Below wr.heap.size wr W) (j : Nat) => unhide HVA W (hbr.trans (hW.mono hbr.size)) j)
    have HP1 := hide (fun (W : World) (hW : Below wr.heap.size wr W) => unhide HPR W (hbr.trans (hW.mono hbr.size)))
    have HBR := hide hbr
    have HZR := hide hzr
    clear HR hbr hzr HVA HPR HA0
    match k, hk with
    | 0, _ =>
      have HRT := hide (fun (W : World) (hW : Below wr.heap.size wr W) => root_any a n c d xs W (har.sl.below hW) har.len har.wds har.dle har.nd har.root)
      have HGT := hide (fun (W : World) (hW : Below wr.heap.size wr W) (sh o : Nat) (hsh : ShOK sh) (ho : o * 2 ^ sh < 512) => get_any a n c d sh o xs W (har.sl.below hW) har.len har.wds har.dle har.nd.symm hsh ho)
      have HRD := hide har.rd
      simp only [ptRes, ptV] at HRT
      simp only [ptV] at HGT
      generalize rootPt d = q at *
      generalize fieldOf xs d = fld at *
      clear har
      have I0 := fun (W : World) => run_idx0 a (some ⟨G, 0, none⟩) n (t + 1) c capG W
      go_wp2_with (go_at_call 64; with_reducible refine (unhide HRT _ (Below.refl _ _)).mono ?_; rintro ee w4 ⟨rfl, hb4⟩; have HB4 := hide hb4; clear hb4)
      refine gen_world _ (fun w' => Below wr.heap.size wr w' ∧ P6 w' w4.heap.size q) ⟨(unhide HB4).alloc (unhide HB4).size _, ⟨by simp, by simp, by simp, by simp, by simp, by simp⟩⟩ ?_
      rintro w5 ⟨hb5, hp5⟩
      generalize w4.heap.size = P at hp5 ⊢
      have HV5 := hide (fun (W : World) (hW : Below w5.heap.size w5 W) (j : Nat) => unhide HV1 W (hb5.trans (hW.mono hb5.size)) j)
      have HP5 := hide (fun (W : World) (hW : Below w5.heap.size w5 W) => unhide HP1 W (hb5.trans (hW.mono hb5.size)))
      have HG5 := hide (fun (W : World) (hW : Below w5.heap.size w5 W) => unhide HGT W (hb5.trans (hW.mono hb5.size)))
      have HQ5 := hide (fun (W : World) (hW : Below w5.heap.size w5 W) => hp5.below hW)
      have HBW := hide ((unhide HBR).trans (hb5.mono (unhide HBR).size))
      have HZ5 := hide ((unhide HZR).below hb5)
      clear hb5 hp5 HB4 HRT HGT HV1 HP1 I0 HBR HZR
      go_loopg [51] qs.length (fun r s wx => ∃ j : Nat, r = qs.length - j ∧ j ≤ qs.length ∧ s = .int .i64 (j : Int) ∧ Hid (Below w5.heap.size w5 wx))
      case atStart => exact ⟨0, by omega, by omega, rfl, hide (Below.refl _ _)⟩
      case round =>
        obtain ⟨j, rfl, hj, rfl, HX⟩ := hrel
        by_cases hjl : j < qs.length
        · have d1 : decide ((j : Int) < (qs.length : Int)) = true := decide_eq_true (by omega)
          have hpj := unhide HQS (qs.getD j (0, 0)) (by rw [List.getD_eq_getElem?_getD, List.getElem?_eq_getElem hjl]; exact List.getElem_mem hjl)
          have hrd := unhide HRD j hjl
          obtain ⟨b, o, rfl, c0, c1, c2, c3⟩ := (unhide HP5 wr (unhide HX)).place hjl
          generalize qs.getD j (0, 0) = p at *
          obtain ⟨sh, i⟩ := p
          have HSH : Hid (ShOK sh) := hide hpj.1
          have HWA : Hid (fld i sh = wantZ vs nn j sh) := hide hrd
          have HVX := hide (fun (W : World) (hW : Below wr.heap.size wr W) => unhide HV5 W ((unhide HX).trans (hW.mono (unhide HX).size)) j)
          have HGX := hide (fun (W : World) (hW : Below wr.heap.size wr W) => unhide HG5 W ((unhide HX).trans (hW.mono (unhide HX).size)) sh i hpj.1 hpj.2)
          have HQX := hide (fun (W : World) (hW : Below wr.heap.size wr W) => unhide HQ5 W ((unhide HX).trans (hW.mono (unhide HX).size)))
          simp only at c0 c1
          have b0 : (0 : Int) ≤ (j : Int) := by omega
          have b1 : (j : Int) < (qs.length : Int) := by omega
          have HJL := hide hjl
          have HWJ : Hid (wrap64 ((j : Int) + 1) = ((j + 1 : Nat) : Int)) := hide (by have := unhide HQL; unfold wrap64; omega)
          have HSZ : Hid (2 ^ sh ≤ 64) := hide (by rcases hpj.1 with h | h | h | h | h <;> subst h <;> decide)
          clear hpj hrd HQ5 HG5 HP5 HV5 hjl HQS HRD
          unfold wantZ at HWA
          have hxv : 0 ≤ vs.getD j 0 ∧ vs.getD j 0 < 18446744073709551616 := by
            rw [List.getD_eq_getElem?_getD]
            rcases hg : vs[j]? with _ | y
            · exact ⟨by simp, by simp⟩
            · exact unhide HVS y (List.mem_of_getElem? hg)
          generalize vs.getD j 0 = x at *
          generalize hs2 : 2 ^ sh = s2 at *
          have hbq := (Below.refl wr.heap.size wr).alloc (Nat.le_refl _) (.cells #[.int .u8 (s2 : Int), .int .u16 (i : Int), .int .u8 0, .bool false] 112)
          by_cases hjn : j < nn
          · have d2 : decide ((j : Int) < (nn : Int)) = true := decide_eq_true (by omega)
            rw [if_pos hjn] at HWA
            go_wp2_with fail
            refine gen_world _ (fun w' => Below wr.heap.size wr w' ∧ P6 w' P q ∧ w'.cell? ⟨wr.heap.size, 0, none⟩ = some (.int .u8 (s2 : Int)) ∧ w'.cell? ⟨wr.heap.size, 1, none⟩ = some (.int .u16 (i : Int)) ∧ w'.cell? ⟨wr.heap.size, 2, none⟩ = some (.int .u8 0) ∧ w'.cell? ⟨wr.heap.size, 3, none⟩ = some (.bool false)) ⟨hbq, unhide HQX _ hbq, by simp, by simp, by simp, by simp⟩ ?_
            clear c0 c1 c2 c3 hbq
            rintro w6 ⟨hb6, hp6, c0, c1, c2, c3⟩
            have HV6 := hide (unhide HVX w6.drew hb6.drew)
            have HG6 := hide (fun k => unhide HGX (w6.drewN k) (bel_drewN hb6 k))
            have HG7 := hide (unhide HGX w6.drew hb6.drew)
            have HP6 := hide hp6
            have HB6 := hide hb6
            clear hp6 hb6 HVX HGX HQX
            generalize wr.heap.size = Q at c0 c1 c2 c3 ⊢
            have hs64 := unhide HSZ
            have e1 : IntKind.u8.wrap (64 - (s2 : Int)) = ((64 - s2 : Nat) : Int) := by rw [IntKind.wrap_u8]; omega
            generalize hk2 : 64 - s2 = k2 at *
            go_region_held2 (fun w' => w'.cell? ⟨Q, 0, none⟩ = some (.int .u8 (s2 : Int)) ∧ True) ((exact ⟨c0, trivial⟩)) ((go_at_call 63; with_reducible refine (unhide HV6).mono ?_; rintro ee w7 ⟨rfl, hw7⟩; subst hw7))
            rw [shl_shr hxv.1 hs64 hk2.symm]
            have HX6 := hide ((unhide HX).trans ((unhide HB6).drew.mono (unhide HX).size))
            obtain ⟨r0, r1, r2, r3, r4, r5⟩ := unhide HP6
            rw [unhide HWA] at HG7
            generalize x % 2 ^ s2 = y at *
            clear HV6 HG6 HP6 HB6 e1 hk2 hxv hs64
            go_wp2_with (go_at_call 65; with_reducible refine (unhide HG7).mono ?_; rintro ee w7 ⟨rfl, hb7⟩; have HX7 := hide ((unhide HX6).trans (hb7.mono (unhide HX6).size)); clear hb7)
            go_roundg (qs.length - (j + 1))
            case measure => have := unhide HJL; omega
            case rel => exact ⟨j + 1, rfl, unhide HJL, (by rw [unhide HWJ]), HX7⟩
          · have d2 : decide ((j : Int) < (nn : Int)) = false := decide_eq_false (by omega)
            rw [if_neg hjn] at HWA
            obtain ⟨r0, r1, r2, r3, r4, r5⟩ := unhide HQX _ hbq
            have HG6 := hide (unhide HGX _ hbq)
            rw [unhide HWA] at HG6
            go_wp2_with (go_at_call 65; with_reducible refine (unhide HG6).mono ?_; rintro ee w7 ⟨rfl, hb7⟩; have HX7 := hide ((unhide HX).trans ((hbq.trans (hb7.mono hbq.size)).mono (unhide HX).size)); clear hb7)
            go_roundg (qs.length - (j + 1))
            case measure => have := unhide HJL; omega
            case rel => exact ⟨j + 1, rfl, unhide HJL, (by rw [unhide HWJ]), HX7⟩
        · have d1 : decide ((j : Int) < (qs.length : Int)) = false := decide_eq_false (by omega)
          have HBX := hide ((unhide HBW).trans ((unhide HX).mono (unhide HBW).size))
          have HZX := hide ((unhide HZ5).below (unhide HX))
          clear HBW HX HZ5 HQ5 HG5 HP5 HV5 HRD
          go_wp2_with fail
          go_roundg 1
          case measure => omega
          case rel => exact ⟨1, rfl, by omega, rfl, hide ⟨unhide HBX, unhide HZX⟩⟩
    | 1, _ =>
      have har := unhide HZR
      have HRT := hide (fun (W : World) (hW : Below wr.heap.size wr W) => root_any (some ⟨G, 0, none⟩) (t + 1) capG t zs W (har.sl.below hW) har.len har.wds har.dle har.nd har.root)
      have HGT := hide (fun (W : World) (hW : Below wr.heap.size wr W) (sh o : Nat) (hsh : ShOK sh) (ho : o * 2 ^ sh < 512) => get_any (some ⟨G, 0, none⟩) (t + 1) capG t sh o zs W (har.sl.below hW) har.len har.wds har.dle har.nd.symm hsh ho)
      have HRD := hide har.rd
      simp only [ptRes, ptV] at HRT
      simp only [ptV] at HGT
      generalize rootPt t = q at *
      generalize fieldOf zs t = fld at *
      clear har
      have I0 := fun (W : World) => run_idx1 a (some ⟨G, 0, none⟩) n (t + 1) c capG W
      go_wp2_with (go_at_call 64; with_reducible refine (unhide HRT _ (Below.refl _ _)).mono ?_; rintro ee w4 ⟨rfl, hb4⟩; have HB4 := hide hb4; clear hb4)
      refine gen_world _ (fun w' => Below wr.heap.size wr w' ∧ P6 w' w4.heap.size q) ⟨(unhide HB4).alloc (unhide HB4).size _, ⟨by simp, by simp, by simp, by simp, by simp, by simp⟩⟩ ?_
      rintro w5 ⟨hb5, hp5⟩
      generalize w4.heap.size = P at hp5 ⊢
      have HV5 := hide (fun (W : World) (hW : Below w5.heap.size w5 W) (j : Nat) => unhide HV1 W (hb5.trans (hW.mono hb5.size)) j)
      have HP5 := hide (fun (W : World) (hW : Below w5.heap.size w5 W) => unhide HP1 W (hb5.trans (hW.mono hb5.size)))
      have HG5 := hide (fun (W : World) (hW : Below w5.heap.size w5 W) => unhide HGT W (hb5.trans (hW.mono hb5.size)))
      have HQ5 := hide (fun (W : World) (hW : Below w5.heap.size w5 W) => hp5.below hW)
      have HBW := hide ((unhide HBR).trans (hb5.mono (unhide HBR).size))
      have HZ5 := hide ((unhide HZR).below hb5)
      clear hb5 hp5 HB4 HRT HGT HV1 HP1 I0 HBR HZR
      go_loopg [51] qs.length (fun r s wx => ∃ j : Nat, r = qs.length - j ∧ j ≤ qs.length ∧ s = .int .i64 (j : Int) ∧ Hid (Below w5.heap.size w5 wx))
      case atStart => exact ⟨0, by omega, by omega, rfl, hide (Below.refl _ _)⟩
      case round =>
        obtain ⟨j, rfl, hj, rfl, HX⟩ := hrel
        by_cases hjl : j < qs.length
        · have d1 : decide ((j : Int) < (qs.length : Int)) = true := decide_eq_true (by omega)
          have hpj := unhide HQS (qs.getD j (0, 0)) (by rw [List.getD_eq_getElem?_getD, List.getElem?_eq_getElem hjl]; exact List.getElem_mem hjl)
          have hrd := unhide HRD j hjl
          obtain ⟨b, o, rfl, c0, c1, c2, c3⟩ := (unhide HP5 wr (unhide HX)).place hjl
          generalize qs.getD j (0, 0) = p at *
          obtain ⟨sh, i⟩ := p
          have HSH : Hid (ShOK sh) := hide hpj.1
          have HWA : Hid (fld i sh = wantZ vs nn j sh) := hide hrd
          have HVX := hide (fun (W : World) (hW : Below wr.heap.size wr W) => unhide HV5 W ((unhide HX).trans (hW.mono (unhide HX).size)) j)
          have HGX := hide (fun (W : World) (hW : Below wr.heap.size wr W) => unhide HG5 W ((unhide HX).trans (hW.mono (unhide HX).size)) sh i hpj.1 hpj.2)
          have HQX := hide (fun (W : World) (hW : Below wr.heap.size wr W) => unhide HQ5 W ((unhide HX).trans (hW.mono (unhide HX).size)))
          simp only at c0 c1
          have b0 : (0 : Int) ≤ (j : Int) := by omega
          have b1 : (j : Int) < (qs.length : Int) := by omega
          have HJL := hide hjl
          have HWJ : Hid (wrap64 ((j : Int) + 1) = ((j + 1 : Nat) : Int)) := hide (by have := unhide HQL; unfold wrap64; omega)
          have HSZ : Hid (2 ^ sh ≤ 64) := hide (by rcases hpj.1 with h | h | h | h | h <;> subst h <;> decide)
          clear hpj hrd HQ5 HG5 HP5 HV5 hjl HQS HRD
          unfold wantZ at HWA
          have hxv : 0 ≤ vs.getD j 0 ∧ vs.getD j 0 < 18446744073709551616 := by
            rw [List.getD_eq_getElem?_getD]
            rcases hg : vs[j]? with _ | y
            · exact ⟨by simp, by simp⟩
            · exact unhide HVS y (List.mem_of_getElem? hg)
          generalize vs.getD j 0 = x at *
          generalize hs2 : 2 ^ sh = s2 at *
          have hbq := (Below.refl wr.heap.size wr).alloc (Nat.le_refl _) (.cells #[.int .u8 (s2 : Int), .int .u16 (i : Int), .int .u8 0, .bool false] 112)
          by_cases hjn : j < nn
          · have d2 : decide ((j : Int) < (nn : Int)) = true := decide_eq_true (by omega)
            rw [if_pos hjn] at HWA
            go_wp2_with fail
            refine gen_world _ (fun w' => Below wr.heap.size wr w' ∧ P6 w' P q ∧ w'.cell? ⟨wr.heap.size, 0, none⟩ = some (.int .u8 (s2 : Int)) ∧ w'.cell? ⟨wr.heap.size, 1, none⟩ = some (.int .u16 (i : Int)) ∧ w'.cell? ⟨wr.heap.size, 2, none⟩ = some (.int .u8 0) ∧ w'.cell? ⟨wr.heap.size, 3, none⟩ = some (.bool false)) ⟨hbq, unhide HQX _ hbq, by simp, by simp, by simp, by simp⟩ ?_
            clear c0 c1 c2 c3 hbq
            rintro w6 ⟨hb6, hp6, c0, c1, c2, c3⟩
            have HV6 := hide (unhide HVX w6.drew hb6.drew)
            have HG6 := hide (fun k => unhide HGX (w6.drewN k) (bel_drewN hb6 k))
            have HG7 := hide (unhide HGX w6.drew hb6.drew)
            have HP6 := hide hp6
            have HB6 := hide hb6
            clear hp6 hb6 HVX HGX HQX
            generalize wr.heap.size = Q at c0 c1 c2 c3 ⊢
            have hs64 := unhide HSZ
            have e1 : IntKind.u8.wrap (64 - (s2 : Int)) = ((64 - s2 : Nat) : Int) := by rw [IntKind.wrap_u8]; omega
            generalize hk2 : 64 - s2 = k2 at *
            go_region_held2 (fun w' => w'.cell? ⟨Q, 0, none⟩ = some (.int .u8 (s2 : Int)) ∧ True) ((exact ⟨c0, trivial⟩)) ((go_at_call 63; with_reducible refine (unhide HV6).mono ?_; rintro ee w7 ⟨rfl, hw7⟩; subst hw7))
            rw [shl_shr hxv.1 hs64 hk2.symm]
            have HX6 := hide ((unhide HX).trans ((unhide HB6).drew.mono (unhide HX).size))
            obtain ⟨r0, r1, r2, r3, r4, r5⟩ := unhide HP6
            rw [unhide HWA] at HG7
            generalize x % 2 ^ s2 = y at *
            clear HV6 HG6 HP6 HB6 e1 hk2 hxv hs64
            go_wp2_with (go_at_call 65; with_reducible refine (unhide HG7).mono ?_; rintro ee w7 ⟨rfl, hb7⟩; have HX7 := hide ((unhide HX6).trans (hb7.mono (unhide HX6).size)); clear hb7)
            go_roundg (qs.length - (j + 1))
            case measure => have := unhide HJL; omega
            case rel => exact ⟨j + 1, rfl, unhide HJL, (by rw [unhide HWJ]), HX7⟩
          · have d2 : decide ((j : Int) < (nn : Int)) = false := decide_eq_false (by omega)
            rw [if_neg hjn] at HWA
            obtain ⟨r0, r1, r2, r3, r4, r5⟩ := unhide HQX _ hbq
            have HG6 := hide (unhide HGX _ hbq)
            rw [unhide HWA] at HG6
            go_wp2_with (go_at_call 65; with_reducible refine (unhide HG6).mono ?_; rintro ee w7 ⟨rfl, hb7⟩; have HX7 := hide ((unhide HX).trans ((hbq.trans (hb7.mono hbq.size)).mono (unhide HX).size)); clear hb7)
            go_roundg (qs.length - (j + 1))
            case measure => have := unhide HJL; omega
            case rel => exact ⟨j + 1, rfl, unhide HJL, (by rw [unhide HWJ]), HX7⟩
        · have d1 : decide ((j : Int) < (qs.length : Int)) = false := decide_eq_false (by omega)
          have HBX := hide ((unhide HBW).trans ((unhide HX).mono (unhide HBW).size))
          have HZX := hide ((unhide HZ5).below (unhide HX))
          clear HBW HX HZ5 HQ5 HG5 HP5 HV5 HRD
          go_wp2_with fail
          go_roundg 0
          case measure => omega
          case rel => exact ⟨2, rfl, by omega, rfl, hide ⟨unhide HBX, unhide HZX⟩⟩
    | 2, _ =>
      go_wp2_with fail
      refine unhide HC0 _ _ ?_
      clear HC0
      go_wp2_with fail
      go_ret
      exact ⟨rfl, unhide HBR⟩
end Go.Proofs.Ygcfag
