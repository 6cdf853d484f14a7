/-
  WALKS: the builder's grow, mark.
-/
import Derived.Test.YgcfagW111
namespace Go.Proofs.Ygcfag
open Go.RowKit
set_option linter.unusedVariables false
set_option linter.unusedSimpArgs false

theorem upd0v {a b c d e f x : Value} {w0 w : World} {B : Nat} {na m1 m2 m3 m4 m5 : Nat} {xa xo xu xv xp xd xa' : List Value} (h : BdAt w0 w B (upd (st a b c d e f) 0 x) (upd (st na m1 m2 m3 m4 m5) 0 (na + 1)) (upd (st xa xo xu xv xp xd) 0 xa')) : BdAt w0 w B (st x b c d e f) (st (na + 1) m1 m2 m3 m4 m5) (st xa' xo xu xv xp xd) :=
  h.congr (upd_st0 _ _ _ _ _ _ _) (upd_st0 _ _ _ _ _ _ _) (upd_st0 _ _ _ _ _ _ _)
theorem FarFrom.congr {w w' : World} {B : Nat} {v v' u' : Nat → Value} (h : FarFrom w w' B v v') (he : ∀ i, i < 6 → v' i = u' i) : FarFrom w w' B v u' :=
  ⟨h.size, fun k hk hB hv => ⟨(h.blk k hk hB hv).1, fun i hi => by rw [← he i hi]; exact (h.blk k hk hB hv).2 i hi⟩⟩

set_option maxHeartbeats 1000000 in
set_option maxRecDepth 100000 in
theorem grow_any {w0 w : World} {B m : Nat} {a b c d e f : Value} {xa xo xu xv xp xd : List Value} (h : BdAt w0 w B (st a b c d e f) (st 1 m m m m m) (st xa xo xu xv xp xd)) (k : Nat) (hk : k ≤ 8) :
    Calls Fagg.prog 195 #[.pointer (some ⟨B, 0, none⟩), .int .u16 (k : Int)] w fun ee w' => ee = .returned (.tuple #[]) ∧ ∃ a', FarFrom w w' B (st a b c d e f) (st a' b c d e f) ∧ BdAt w0 w' B (st a' b c d e f) (st (1 + k) m m m m m) (st (xa ++ List.replicate k (.int .u64 0)) xo xu xv xp xd) := by
  obtain ⟨i0, hi0, hz0, hz1, hz2⟩ := info_parts info32
  have H : Hid (∃ a', FarFrom w w B (st a b c d e f) (st a' b c d e f) ∧ BdAt w0 w B (st a' b c d e f) (st (1 + (k - k)) m m m m m) (st (xa ++ List.replicate (k - k) (.int .u64 0)) xo xu xv xp xd)) := hide ⟨a, FarFrom.of_below (Below.refl _ _), by simpa using h⟩
  clear h
  go_enter Fagg.func195, Fagg.ntmps195
  go_wp2_with fail
  go_loopg [1] k (fun j s wr => s = .int .u16 (j : Int) ∧ j ≤ k ∧ Hid (∃ a', FarFrom w wr B (st a b c d e f) (st a' b c d e f) ∧ BdAt w0 wr B (st a' b c d e f) (st (1 + (k - j)) m m m m m) (st (xa ++ List.replicate (k - j) (.int .u64 0)) xo xu xv xp xd)))
  case atStart => exact ⟨rfl, Nat.le_refl _, H⟩
  case round =>
    obtain ⟨rfl, hj, HR⟩ := hrel
    clear H
    rcases gk with _ | j
    · go_wp2_with fail
      have hr := unhide HR
      simp only [Nat.sub_zero] at hr
      exact bodyPost_end (v := .tuple #[]) (by simp [results, Fagg.results195, go_sem]) rfl ⟨rfl, hr⟩
    · obtain ⟨a', hfar, hr⟩ := unhide HR
      have d1 : decide ((0 : Int) < ((j + 1 : Nat) : Int)) = true := decide_eq_true (by omega)
      have d2 : IntKind.u16.wrap (((j + 1 : Nat) : Int) - 1) = (j : Int) := by rw [IntKind.wrap_u16]; omega
      have q0 : wr.cell? ⟨B, 0, none⟩ = some a' := hr.c0
      have HMX : Hid (1 + (k - (j + 1)) + 1 ≤ maxLen) := hide (by unfold maxLen; omega)
      have HMY : Hid ((1 + (k - (j + 1)) + 1) * 8 ≤ 140737488355328) := hide (by omega)
      have HBD := hide hr
      have HFA := hide hfar
      have HJ := hide hj
      clear hr hfar HR hj
      generalize ((j + 1 : Nat) : Int) = jj at *
      have HE : Hid (1 + (k - (j + 1)) + 1 = 1 + (k - j)) := hide (by have := unhide HJ; omega)
      have HE2 : Hid (xa ++ List.replicate (k - (j + 1)) (.int .u64 0) ++ [.int .u64 0] = xa ++ List.replicate (k - j) (Value.int .u64 0)) := hide (by
        have := unhide HJ
        rw [List.append_assoc, show k - j = (k - (j + 1)) + 1 by omega, List.replicate_succ'])
      generalize 1 + (k - (j + 1)) = na at *
      generalize xa ++ List.replicate (k - (j + 1)) (Value.int .u64 0) = xs at *
      go_wp2_with (at_builtin; refine wpList_append_lies _ rfl _ _ 44 rfl w0.heap.size 32 i0 (.int .u64 0) 1 8 Fagg.underlying44 hi0 hz0 hz1 hz2 rfl (by decide) a' na xs rfl ((unhide HBD).own0.alloc _) ⟨wr.heap.size, 0, none⟩ 1 1 [.int .u64 0] rfl rfl (news_alloc wr #[.int .u64 0] 32) (one_cell rfl) (by omega) (unhide HMX) (unhide HMY) (Nat.le_trans (unhide HBD).size (by simp)) (wr.heap.size + 1) (by simp) ?_; intro b2 cap2 w2 ho2 hg2 hat2 hlt2; have HP := hide ((unhide HBD).put 0 (by omega) ((Below.refl wr.heap.size wr).alloc (Nat.le_refl _) _) 1 [.int .u64 0] ho2 hg2 (hat2.imp (fun x => x) (fun x => x.trans (by simp)))); have y0 : w2.cell? ⟨B, 0, none⟩ = some a' := (unhide HP).2.1; have yf : w2.frozen? ⟨B, 0, none⟩ = false := (unhide HP).2.2.1; clear ho2 hg2 hat2)
      have HB2 : Hid (BdAt w0 (w2.setCell ⟨B, 0, none⟩ (.slice (some ⟨b2, 0, none⟩) (na + 1) cap2)) B (st (.slice (some ⟨b2, 0, none⟩) (na + 1) cap2) b c d e f) (st (na + 1) m m m m m) (st (xs ++ [.int .u64 0]) xo xu xv xp xd)) := hide (upd0v (unhide HP).1)
      have HF2 : Hid (FarFrom w (w2.setCell ⟨B, 0, none⟩ (.slice (some ⟨b2, 0, none⟩) (na + 1) cap2)) B (st a b c d e f) (st (.slice (some ⟨b2, 0, none⟩) (na + 1) cap2) b c d e f)) := hide ((unhide HFA).trans ((unhide HP).2.2.2.congr (upd_st0 _ _ _ _ _ _ _)))
      clear HP HBD HFA
      go_roundg j
      case measure => omega
      case rel =>
        refine ⟨rfl, by have := unhide HJ; omega, hide ⟨_, unhide HF2, ?_⟩⟩
        have hh := unhide HB2
        rw [unhide HE2, unhide HE] at hh
        rw [unhide HE]
        exact hh

set_option maxHeartbeats 1000000 in
theorem markSlots_any (w : World) (p : Value) (at_ : Int) (h0 : 0 ≤ at_) (h1 : at_ < 65536) :
    Calls Fagg.prog 220 #[p, .int .u16 at_, .int .u16 0, .bool true] w fun e w' => e = .returned (.tuple #[]) ∧ w' = w := by
  have d1 : IntKind.u16.wrap at_ = at_ := by rw [IntKind.wrap_u16]; omega
  go_enter Fagg.func220, Fagg.ntmps220
  go_wp2_with fail
  go_loopw [8] (fun s wr => s = .int .u16 at_ ∧ wr = w) (fun _ _ => 0)
  · exact ⟨rfl, rfl⟩
  · obtain ⟨rfl, rfl⟩ := hrel
    go_wp2_with fail
    exact bodyPost_end (v := .tuple #[]) (by simp [results, Fagg.results220, go_sem]) rfl ⟨rfl, rfl⟩

set_option maxHeartbeats 1000000 in
theorem mark_any (w : World) (B : Nat) (x : Value) (at_ : Int) (h0 : 0 ≤ at_) (h1 : at_ < 65536) :
    Calls Fagg.prog 196 #[.pointer (some ⟨B, 0, none⟩), .int .u16 at_, .int .u16 0, .bool true] w fun e w' => e = .returned (.tuple #[]) ∧ w' = w := by
  have HM := hide (fun p => markSlots_any w p at_ h0 h1)
  go_enter Fagg.func196, Fagg.ntmps196
  go_wp2_with (go_at_call 220; with_reducible refine (unhide HM _).mono ?_; rintro e w1 ⟨rfl, hw1⟩; subst hw1)
  exact bodyPost_end (v := .tuple #[]) (by simp [results, Fagg.results196, go_sem]) rfl ⟨rfl, rfl⟩
end Go.Proofs.Ygcfag
