/-
  WALKS: law.ownSegCode: the checksum.
-/
import Derived.Test.YgcfagW10f
import Derived.Deep.RegionLaw
namespace Go.Proofs.Ygcfag
open Go.RowKit
set_option linter.unusedVariables false
set_option linter.unusedSimpArgs false

/-- append onto what the call owns, as one step of a region that draws. -/
theorem step_append_own {P : Program} {ops : Array Oper} {o : Oper} {a : Act} {w : World} {K : Act → World → Prop} {Q : Exit → Act → World → Prop} {E : Prop}
    (hg : o.guard = none) (s x : Operand) (t : TypeId) (hop : o.op = Op.call { callee := Callee.builtin Builtin.append, args := #[s, x], argTypes := #[t, t] })
    (base : Nat) (e : TypeId) (i : TypeInfo) (z : Value) (size bytes : Nat) (h1 : P.underlying t = some (.slice e)) (h2 : P.info? e = some i) (h3 : i.zero = some z) (h4 : i.size = size) (h5 : i.bytes = bytes) (h6 : z.cells.size = size) (h7 : 0 < size)
    (v : Value) (n : Nat) (xs : List Value) (hs : a.eval s = v) (hown : w.ownsRow base e size v n xs)
    (ad : Addr) (m c : Nat) (news : List Value) (hx : a.eval x = .slice (some ad) m c) (hn : news.length = m * size) (hc : ∀ j u, news[j]? = some u → w.cell? (ad.add j) = some u) (h1c : ∀ u ∈ news, u.oneCell' = true)
    (b1 : n + m ≤ maxLen) (b2 : (n + m) * bytes ≤ 140737488355328) (b3 : base ≤ w.heap.size)
    (hK : ∀ v' w', w'.ownsRow base e size v' (n + m) (xs ++ news) → w.grownBy w' v.ownBlock → K (a.put o.dst v') w') :
    if Region.wanted o (yielded ops a.tmps) = true then Oper.wp P o a w K Q else E := by
  have hw : Region.wanted o (yielded ops a.tmps) = true := by simp [Region.wanted, hg]
  rw [if_pos hw]
  obtain ⟨v', w', hrun, r1, r2, _⟩ := run_append_own (P := P) w base t o.type e i z size bytes h1 h2 h3 h4 h5 h6 h7 v n xs hown ad m c news hn hc h1c b1 b2 b3
  unfold Oper.wp
  simp [execOp, hop, resolve, invoke, builtin, hs, hx, hrun, Result.andThen]
  exact hK v' w' r1 r2

theorem Sl.of_own8 {w : World} {base : Nat} {a : Option Addr} {n c : Nat} {xs : List Int} (h : w.ownsRow base 5 1 (.slice a n c) n (xs.map (Value.int .u8))) : n = xs.length ∧ n ≤ c ∧ c ≤ maxLen ∧ Sl .u8 w a xs := by
  have hl : xs.length = n := by have := h.1; simpa using this
  refine ⟨hl.symm, ?_, ?_, ?_⟩
  · rcases h.2 with ⟨h2, h3⟩ | ⟨g, cap, cur, h2, _, _, h3, _⟩
    · omega
    · simp at h2; omega
  · rcases h.2 with ⟨h2, h3⟩ | ⟨g, cap, cur, h2, _, _, h3, h4, _⟩
    · simp at h2; omega
    · simp at h2; omega
  · rcases h.2 with ⟨h2, h3⟩ | ⟨g, cap, cur, h2, hb, hh, h3, h4, h5, h6⟩
    · exact .inl (List.eq_nil_of_length_eq_zero (by omega))
    · simp at h2
      obtain ⟨rfl, rfl⟩ := h2
      refine .inr ⟨g, 0, rfl, fun i hi => ?_⟩
      have := h.cellAt i (by omega)
      rw [Nat.zero_add, this]
      simp [List.getD, hi]

theorem sumOn_append (h : Int) (xs ys : List Int) : sumOn h (xs ++ ys) = sumOn (sumOn h xs) ys := by simp [sumOn]

set_option maxHeartbeats 1000000 in
set_option maxRecDepth 100000 in
theorem own_t5 (R : Ending → World → Prop) (b off n c T : Nat) (fl su sm : Int) (xs : List Int) (w : World) (hT2 : T ≤ 256)
    (hfl : 0 ≤ fl) (hfl2 : fl ≤ 1) (hn : xs.length = n) (hn32 : 32 ≤ n) (hn4 : n ≤ 5000) (hnc : n ≤ c) (hc : c ≤ 9223372036854775807) (HS : Hid (Sl .u8 w (some ⟨b, off, none⟩) xs)) (HX : Hid (Bys xs))
    (HSU : Hid (sumOn (sumOn 2166136261 (xs.take 12)) (xs.drop 16) = su)) (HSM : Hid (num xs 12 4 = sm))
    (hno6 : su ≠ sm → ∀ w', Below w.heap.size w w' → R (.returned (.tuple #[.slice none 0 0, .int .u8 6])) w')
    (hno : su = sm → ∀ code : Nat, openRest xs fl (T : Int) = (code, []) → ∀ w', Below w.heap.size w w' → R (.returned (.tuple #[.slice none 0 0, .int .u8 (code : Int)])) w')
    (hyes : su = sm → ∀ ms x k cc w', openRest xs fl (T : Int) = (0, ms) → ms.length = k → SegsAt w' (some x) ms → Below w.heap.size w w' → R (.returned (.tuple #[.slice (some x) k cc, .int .u8 0])) w')
    (u1 u6 u7 u8 u9 u10 u11 u12 u13 u14 u15 u16 u17 u18 u19 u20 u21 u22 u23 u24 u25 u26 u27 u28 u29 u30 u31 u32 u33 u34 u35 u36 u37 u38 u39 u40 u41 u42 u43 u44 u45 u46 u47 u48 u49 u50 u51 u52 u53 u54 u55 u56 u57 u58 u59 u60 u61 u62 u63 u64 u65 u66 u67 u68 u69 u70 u71 u72 u73 u74 u75 u76 u77 u78 u79 u80 u81 u82 u83 u84 u85 u86 u87 u88 u89 u90 u91 u92 u93 u94 u95 u96 u97 u98 u99 u100 u101 u102 u103 u104 u105 u106 u107 u108 u109 u110 u111 u112 u113 u114 u115 u116 u117 u118 u119 u120 u121 u122 u123 u124 u125 u126 u127 u128 u129 u130 u131 u132 u133 u134 u135 u136 u137 u138 u139 u140 u141 u142 u143 : Value) :
    Code.wp Fagg.prog (bodyAt Fagg.f54 [1, 1, 1, 1]) (bodyPost Fagg.prog Fagg.f54 R) ⟨List.toArray (.slice (some ⟨b, off, none⟩) n c :: u1 :: .slice none 0 0 :: .int .u8 0 :: .int .u64 fl :: .int .i64 (T : Int) :: u6 :: u7 :: u8 :: u9 :: u10 :: u11 :: u12 :: u13 :: u14 :: u15 :: u16 :: u17 :: u18 :: u19 :: u20 :: u21 :: u22 :: u23 :: u24 :: u25 :: u26 :: u27 :: u28 :: u29 :: u30 :: u31 :: u32 :: u33 :: u34 :: u35 :: u36 :: u37 :: u38 :: u39 :: u40 :: u41 :: u42 :: u43 :: u44 :: u45 :: u46 :: u47 :: u48 :: u49 :: u50 :: u51 :: u52 :: u53 :: u54 :: u55 :: u56 :: u57 :: u58 :: u59 :: u60 :: u61 :: u62 :: u63 :: u64 :: u65 :: u66 :: u67 :: u68 :: u69 :: u70 :: u71 :: u72 :: u73 :: u74 :: u75 :: u76 :: u77 :: u78 :: u79 :: u80 :: u81 :: u82 :: u83 :: u84 :: u85 :: u86 :: u87 :: u88 :: u89 :: u90 :: u91 :: u92 :: u93 :: u94 :: u95 :: u96 :: u97 :: u98 :: u99 :: u100 :: u101 :: u102 :: u103 :: u104 :: u105 :: u106 :: u107 :: u108 :: u109 :: u110 :: u111 :: u112 :: u113 :: u114 :: u115 :: u116 :: u117 :: u118 :: u119 :: u120 :: u121 :: u122 :: u123 :: u124 :: u125 :: u126 :: u127 :: u128 :: u129 :: u130 :: u131 :: u132 :: u133 :: u134 :: u135 :: u136 :: u137 :: u138 :: u139 :: u140 :: u141 :: u142 :: u143 :: []), []⟩ w := by
  conv => arg 2; whnf
  have HNO6 := hide hno6
  have HNO := hide hno
  have HYES := hide hyes
  clear hno6 hno hyes
  obtain ⟨i0, hi0, hz0, hz1, hz2⟩ := info_parts info5
  have HN1 : Hid (∀ W, Below w.heap.size w W → ∀ j u, ((xs.take 12).map (Value.int .u8))[j]? = some u → W.cell? ((⟨b, off, none⟩ : Addr).add j) = some u) := fun W hW j u hu => by
    have hj : j < 12 := by have := (List.getElem?_eq_some_iff.1 hu).1; simp at this; omega
    obtain ⟨b', off', he, hcl⟩ := ((unhide HS).below hW).at (i := j) (by omega)
    simp at he
    obtain ⟨rfl, rfl⟩ := he
    rw [Addr.add_lit, hcl j (by omega), ← hu]
    simp [List.getD, hj, show j < xs.length by omega]
  have HN2 : Hid (∀ W, Below w.heap.size w W → ∀ j u, ((xs.drop 16).map (Value.int .u8))[j]? = some u → W.cell? ((⟨b, off + 16, none⟩ : Addr).add j) = some u) := fun W hW j u hu => by
    have hj : j < n - 16 := by have := (List.getElem?_eq_some_iff.1 hu).1; simp at this; omega
    obtain ⟨b', off', he, hcl⟩ := ((unhide HS).below hW).at (i := 16 + j) (by omega)
    simp at he
    obtain ⟨rfl, rfl⟩ := he
    rw [Addr.add_lit, Nat.add_assoc, hcl (16 + j) (by omega), ← hu]
    simp [List.getD, show 16 + j < xs.length by omega]
  have h12 : (12 : Int) ≤ (c : Int) := by omega
  have h16 : (16 : Int) ≤ (n : Int) := by omega
  have hc16 : ¬ c = 16 := by omega
  go_upto_region 12 with fail
  go_cut [6] (fun v wx => ∃ (a : Option Addr) (cc : Nat), v = .slice a (n - 4) cc ∧ cc ≤ 9223372036854775807 ∧ Hid (wx.ownsRow w.heap.size 5 1 (.slice a (n - 4) cc) (n - 4) ((xs.take 12 ++ xs.drop 16).map (Value.int .u8))) ∧ Below w.heap.size w wx)
  case first =>
    go_region_law (first | (refine step_append_own rfl (.const (.slice none 0 0)) (.tmp 40) 33 rfl w.heap.size 5 i0 (.int .u8 0) 1 1 Fagg.underlying33 hi0 hz0 hz1 hz2 rfl (by decide) (.slice none 0 0) 0 [] rfl (World.ownsRow_nil _ _ _ _) ⟨b, off, none⟩ 12 c ((xs.take 12).map (Value.int .u8)) rfl (by simp; omega) (unhide HN1 _ (Below.refl _ _).drew) (ints_oneCell _ _) (by unfold maxLen; omega) (by omega) (Nat.le_refl _) ?_; intro v1 w1 ho1 hg1; have hb1 := ((Below.refl w.heap.size w).drew).grown hg1 (Nat.le_refl _) (by simp [Value.ownBlock]); have HO1 := hide ho1; have HG1 := hide hg1; clear ho1 hg1) | (refine step_append_own rfl (.tmp 41) (.tmp 43) 33 rfl w.heap.size 5 i0 (.int .u8 0) 1 1 Fagg.underlying33 hi0 hz0 hz1 hz2 rfl (by decide) v1 12 _ rfl (by simpa using unhide HO1) ⟨b, off + 16, none⟩ (n - 16) (c - 16) ((xs.drop 16).map (Value.int .u8)) rfl (by simp; omega) (unhide HN2 _ hb1) (ints_oneCell _ _) (by unfold maxLen; omega) (by omega) hb1.size ?_; intro v2 w2 ho2 hg2; have HO2 := hide ho2; have HG2 := hide hg2; clear ho2 hg2))
    go_wp2_with fail
    go_meet
    obtain ⟨a2, c2, rfl⟩ := own_form (unhide HO2)
    have hn4' : 12 + (n - 16) = n - 4 := by omega
    have HO3 := unhide HO2
    rw [← List.map_take, ← List.map_append, hn4'] at HO3
    have hcm := (Sl.of_own8 HO3).2.2.1
    rw [hn4']
    refine ⟨a2, c2, rfl, hcm, HO3, ?_⟩
    exact (hb1.grown (unhide HG2) hb1.size (fun k hk => ((unhide HO1).lt k hk).1))
  case rest =>
    obtain ⟨a2, c2, rfl, hc2, HO, hbx⟩ := hcut
    obtain ⟨hl1, hl2, _, hsl⟩ := Sl.of_own8 (unhide HO)
    have HSUM := hide (fun W (hW : Below wc.heap.size wc W) => ownSum_any a2 (n - 4) c2 (xs.take 12 ++ xs.drop 16) W (hsl.below hW) hl1.symm (by omega) (((unhide HX).take 12).append ((unhide HX).drop 16)))
    rw [sumOn_append, unhide HSU] at HSUM
    have HNUM := hide (fun W (hW : Below wc.heap.size wc W) => number_any (some ⟨b, off, none⟩) n c 12 4 xs W (((unhide HS).below hbx).below hW) hn (by omega) (unhide HX) (by omega) (by omega))
    rw [show le ((xs.drop 12).take 4) = sm from unhide HSM] at HNUM
    clear hl1 hl2 hsl
    refine (‹∀ (a : Act) (w : World), Code.wp Fagg.prog _ _ a w → _› _ _ ?_)
    refine wp_seq_k (fun K1 hK1 => ?_)
    have HK1 := hide hK1
    clear hK1
    by_cases hsu : su = sm
    · have e1 : (su != sm) = false := by simp [hsu]
      have HNO1 := hide (unhide HNO hsu)
      have HYES1 := hide (unhide HYES hsu)
      clear hsu
      go_wp2_with (first | (go_at_call 119; refine (unhide HSUM wc (Below.refl _ _)).mono ?_; rintro e w' ⟨rfl, hw⟩; rw [hw]; clear hw) | (go_at_call 118; refine (unhide HNUM wc (Below.refl _ _)).mono ?_; rintro e w' ⟨rfl, hw⟩; rw [hw]; clear hw))
      refine unhide HK1 _ _ ?_
      exact own_t4 R b off n c T fl xs wc hT2 hfl hfl2 hn hn32 hn4 hnc hc ((unhide HS).below hbx) HX
        (fun code h w' hb => unhide HNO1 code h w' (hbx.trans (hb.mono hbx.size))) (fun ms x k cc w' h1 h2 h3 hb => unhide HYES1 ms x k cc w' h1 h2 h3 (hbx.trans (hb.mono hbx.size))) _ _ _ _ _ _ _ _ _ _ _ _ _ _ _ _ _ _ _ _ _ _ _ _ _ _ _ _ _ _ _ _ _ _ _ _ _ _ _ _ _ _ _ _ _ _ _ _ _ _ _ _ _ _ _ _ _ _ _ _ _ _ _ _ _ _ _ _ _ _ _ _ _ _ _ _ _ _ _ _ _ _ _ _ _ _ _ _ _ _ _ _ _ _ _ _ _ _ _ _ _ _ _ _ _ _ _ _ _ _ _ _ _ _ _ _ _ _ _ _ _ _ _ _ _ _ _ _ _ _ _ _ _ _ _ _ _ _ _
    · have e1 : (su != sm) = true := by simp [hsu]
      have HN := hide (unhide HNO6 hsu wc hbx)
      clear hsu
      go_wp2_with (first | (go_at_call 119; refine (unhide HSUM wc (Below.refl _ _)).mono ?_; rintro e w' ⟨rfl, hw⟩; rw [hw]; clear hw) | (go_at_call 118; refine (unhide HNUM wc (Below.refl _ _)).mono ?_; rintro e w' ⟨rfl, hw⟩; rw [hw]; clear hw))
      exact unhide HN
end Go.Proofs.Ygcfag
