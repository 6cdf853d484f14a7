/-
  WALKS: the builder's hang.
-/
import Derived.Test.YgcfagW108
namespace Go.Proofs.Ygcfag
open Go.RowKit
set_option linter.unusedVariables false
set_option linter.unusedSimpArgs false

def st {α : Type} (a b c d e f : α) : Nat → α | 0 => a | 1 => b | 2 => c | 3 => d | 4 => e | 5 => f | _ => a
theorem upd_st0 {α : Type} (a b c d e f x : α) : ∀ i, i < 6 → upd (st a b c d e f) 0 x i = st x b c d e f i := by
  intro i hi; match i, hi with | 0, _ => rfl | 1, _ => rfl | 2, _ => rfl | 3, _ => rfl | 4, _ => rfl | 5, _ => rfl
theorem upd_st1 {α : Type} (a b c d e f x : α) : upd (st a b c d e f) 1 x = st a x c d e f := by
  funext i
  match i with | 0 => rfl | 1 => rfl | 2 => rfl | 3 => rfl | 4 => rfl | 5 => rfl | i + 6 => rfl
theorem upd_st2 {α : Type} (a b c d e f x : α) : upd (st a b c d e f) 2 x = st a b x d e f := by
  funext i
  match i with | 0 => rfl | 1 => rfl | 2 => rfl | 3 => rfl | 4 => rfl | 5 => rfl | i + 6 => rfl
theorem upd_st3 {α : Type} (a b c d e f x : α) : upd (st a b c d e f) 3 x = st a b c x e f := by
  funext i
  match i with | 0 => rfl | 1 => rfl | 2 => rfl | 3 => rfl | 4 => rfl | 5 => rfl | i + 6 => rfl
theorem upd_st4 {α : Type} (a b c d e f x : α) : upd (st a b c d e f) 4 x = st a b c d x f := by
  funext i
  match i with | 0 => rfl | 1 => rfl | 2 => rfl | 3 => rfl | 4 => rfl | 5 => rfl | i + 6 => rfl
theorem upd_st5 {α : Type} (a b c d e f x : α) : upd (st a b c d e f) 5 x = st a b c d e x := by
  funext i
  match i with | 0 => rfl | 1 => rfl | 2 => rfl | 3 => rfl | 4 => rfl | 5 => rfl | i + 6 => rfl
theorem BdAt.congr {w0 w : World} {B : Nat} {v v' : Nat → Value} {n n' : Nat → Nat} {xs xs' : Nat → List Value} (h : BdAt w0 w B v n xs) (hv : ∀ i, i < 6 → v i = v' i) (hn : ∀ i, i < 6 → n i = n' i) (hx : ∀ i, i < 6 → xs i = xs' i) : BdAt w0 w B v' n' xs' :=
  ⟨h.bel, h.bb, h.bl, fun k hk => by rw [← hv k hk]; exact h.cell k hk, h.fz, fun k hk => by rw [← hv k hk, ← hn k hk, ← hx k hk]; exact h.own k hk, fun i j hi hj hij => by rw [← hv i hi, ← hv j hj]; exact h.ne i j hi hj hij, fun k hk => by rw [← hv k hk]; exact h.nb k hk⟩
theorem news_alloc (w : World) (cs : Array Value) (e : TypeId) : ∀ (j : Nat) (u : Value), cs.toList[j]? = some u → (w.alloc (.cells cs e)).cell? ((⟨w.heap.size, 0, none⟩ : Addr).add j) = some u := by
  intro j u hj
  have hadd : (⟨w.heap.size, 0, none⟩ : Addr).add j = ⟨w.heap.size, j, none⟩ := by unfold Addr.add; split <;> simp_all
  rw [hadd, World.cell?_alloc_new]
  simpa using hj
def ptCs (q : Pt) : List Value := [.int .u8 q.kind, .int .u16 q.at_, .int .u8 q.data, .int .u8 q.ptrs, .int .u8 q.code, .int .u16 q.count]
theorem ptCs_one (q : Pt) : ∀ u ∈ ptCs q, u.oneCell' = true := by
  intro u hu; simp [ptCs] at hu; rcases hu with rfl | rfl | rfl | rfl | rfl | rfl <;> rfl

set_option maxHeartbeats 2000000 in
set_option maxRecDepth 100000 in
theorem hang_any {w0 w : World} {B na m : Nat} {a b c d e f : Value} {xa xo xu xv xp xd : List Value} (h : BdAt w0 w B (st a b c d e f) (st na m m m m m) (st xa xo xu xv xp xd)) (hm : m ≤ 1000) (q : Pt) (up via dep : Int) :
    Calls Fagg.prog 127 #[.pointer (some ⟨B, 0, none⟩), ptV q, .int .u8 up, .int .u8 via, .int .u8 dep] w fun ee w' => ee = .returned (.tuple #[]) ∧ ∃ b' c' d' e' f', FarFrom w w' B (st a b c d e f) (st a b' c' d' e' f') ∧ BdAt w0 w' B (st a b' c' d' e' f') (st na (m + 1) (m + 1) (m + 1) (m + 1) (m + 1)) (st xa (xo ++ ptCs q) (xu ++ [.int .u8 up]) (xv ++ [.int .u8 via]) (xp ++ [.int .u8 dep]) (xd ++ [.bool false])) := by
  obtain ⟨i58, hi58, hzi58, hsi58, hbi58⟩ := info_parts info58
  obtain ⟨i5, hi5, hzi5, hsi5, hbi5⟩ := info_parts info5b
  obtain ⟨i4, hi4, hzi4, hsi4, hbi4⟩ := info_parts info4
  have HMX : Hid (m + 1 ≤ maxLen) := hide (by unfold maxLen; omega)
  have HM := hide hm
  clear hm
  have hB := h.bl
  have H := hide h
  clear h
  unfold ptV
  go_enter Fagg.func127, Fagg.ntmps127
  refine wp_seq_k (fun K0 hK0 => ?_)
  have HC0 := hide hK0
  clear hK0
  go_wp2_with fail
  refine unhide HC0 _ _ ?_
  clear HC0
  refine gen_world _ (fun w' => BdAt w0 w' B (st a b c d e f) (st na m m m m m) (st xa xo xu xv xp xd) ∧ P6 w' w.heap.size q ∧ B ≠ w.heap.size ∧ FarFrom w w' B (st a b c d e f) (st a b c d e f)) ⟨(unhide H).alloc _, ⟨by simp, by simp, by simp, by simp, by simp, by simp⟩, by omega, FarFrom.of_below ((Below.refl _ _).alloc (Nat.le_refl _) _)⟩ ?_
  clear H
  rintro w1 ⟨h1, ⟨p0, p1, p2, p3, p4, p5⟩, hne, hff⟩
  have HF := hide hff
  clear hff
  have q0 : w1.cell? ⟨B, 5, none⟩ = some b := h1.c1
  have q0a : (w1.alloc (.cells #[.int .u8 q.kind, .int .u16 q.at_, .int .u8 q.data, .int .u8 q.ptrs, .int .u8 q.code, .int .u16 q.count] 58)).cell? ⟨B, 5, none⟩ = some b := (h1.alloc _).c1
  have H1 := hide h1
  clear h1 hB
  refine wp_seq_k (fun K0 hK0 => ?_)
  have HC0 := hide hK0
  clear hK0
  go_wp2_with fail
  go_region_law (refine step_append_lies _ (by rfl) _ _ 133 (by rfl) w0.heap.size 58 i58 (.agg #[.int .u8 0, .int .u16 0, .int .u8 0, .int .u8 0, .int .u8 0, .int .u16 0]) 6 10 Fagg.underlying133 hi58 hzi58 hsi58 hbi58 rfl (by decide) b m xo (by rfl) ((unhide H1).drew.alloc _).own1 ⟨w1.heap.size, 0, none⟩ 1 1 (ptCs q) (by rfl) rfl (news_alloc w1 #[.int .u8 q.kind, .int .u16 q.at_, .int .u8 q.data, .int .u8 q.ptrs, .int .u8 q.code, .int .u16 q.count] 58) (ptCs_one q) (by omega) (unhide HMX) (by have := unhide HM; omega) ((unhide H1).drew.alloc _).size (w1.heap.size + 1) (by simp) ?_; intro b1 cap1 w2 ho2 hg2 hat2 hlt2; have HP := hide ((unhide H1).put 1 (by omega) (((Below.refl w1.heap.size w1).alloc (Nat.le_refl _) _).drew) 1 (ptCs q) ho2 hg2 (hat2.imp (fun x => x) (fun x => x.trans (by simp)))); have y0 : w2.cell? ⟨B, 5, none⟩ = some b := (unhide HP).2.1; have yf : w2.frozen? ⟨B, 5, none⟩ = false := (unhide HP).2.2.1; clear ho2 hg2 hat2)
  all_goals (refine unhide HC0 _ _ ?_)
  all_goals (clear HC0)
  all_goals (have H2 : Hid (BdAt w0 (w2.setCell ⟨B, 5, none⟩ (.slice (some ⟨b1, 0, none⟩) (m + 1) cap1)) B _ _ _) := hide (unhide HP).1)
  all_goals (have HF2 : Hid (FarFrom w (w2.setCell ⟨B, 5, none⟩ (.slice (some ⟨b1, 0, none⟩) (m + 1) cap1)) B (st a b c d e f) _) := hide ((unhide HF).trans (unhide HP).2.2.2))
  all_goals (clear HP q0 q0a y0 yf H1 p0 p1 p2 p3 p4 p5 HF)
  all_goals (rw [upd_st1] at HF2)
  all_goals (rw [upd_st1, upd_st1, upd_st1] at H2)
  all_goals (revert H2 HF2; generalize w2.setCell ⟨B, 5, none⟩ (.slice (some ⟨b1, 0, none⟩) (m + 1) cap1) = w2'; intro H2 HF)
  all_goals
    (have q0 : w2'.cell? ⟨B, 6, none⟩ = some c := (unhide H2).c2
     refine wp_seq_k (fun K0 hK0 => ?_)
     have HC0 := hide hK0
     clear hK0
     go_wp2_with (at_builtin; refine wpList_append_lies _ rfl _ _ 33 rfl w0.heap.size 5 i5 (.int .u8 0) 1 1 Fagg.underlying33 hi5 hzi5 hsi5 hbi5 rfl (by decide) c m xu rfl ((unhide H2).own2.alloc _) ⟨w2'.heap.size, 0, none⟩ 1 1 [.int .u8 up] rfl rfl (news_alloc w2' #[.int .u8 up] 5) (one_cell rfl) (by omega) (unhide HMX) (by have := unhide HM; omega) (Nat.le_trans (unhide H2).size (by simp)) (w2'.heap.size + 1) (by simp) ?_; intro b2 cap2 w3 ho2 hg2 hat2 hlt2; have HP := hide ((unhide H2).put 2 (by omega) ((Below.refl w2'.heap.size w2').alloc (Nat.le_refl _) _) 1 [.int .u8 up] ho2 hg2 (hat2.imp (fun x => x) (fun x => x.trans (by simp)))); have y0 : w3.cell? ⟨B, 6, none⟩ = some c := (unhide HP).2.1; have yf : w3.frozen? ⟨B, 6, none⟩ = false := (unhide HP).2.2.1; clear ho2 hg2 hat2)
     refine unhide HC0 _ _ ?_
     clear HC0
     have H3 : Hid (BdAt w0 (w3.setCell ⟨B, 6, none⟩ (.slice (some ⟨b2, 0, none⟩) (m + 1) cap2)) B _ _ _) := hide (unhide HP).1
     have HF2 : Hid (FarFrom w (w3.setCell ⟨B, 6, none⟩ (.slice (some ⟨b2, 0, none⟩) (m + 1) cap2)) B (st a b c d e f) _) := hide ((unhide HF).trans (unhide HP).2.2.2)
     clear HP q0 y0 yf H2 HF
     rw [upd_st2, upd_st2, upd_st2] at H3
     rw [upd_st2] at HF2
     have HF := HF2
     clear HF2
     revert H3 HF
     generalize w3.setCell ⟨B, 6, none⟩ (.slice (some ⟨b2, 0, none⟩) (m + 1) cap2) = w3'
     intro H3 HF
     have q0 : w3'.cell? ⟨B, 7, none⟩ = some d := (unhide H3).c3
     refine wp_seq_k (fun K0 hK0 => ?_)
     have HC0 := hide hK0
     clear hK0
     go_wp2_with (at_builtin; refine wpList_append_lies _ rfl _ _ 33 rfl w0.heap.size 5 i5 (.int .u8 0) 1 1 Fagg.underlying33 hi5 hzi5 hsi5 hbi5 rfl (by decide) d m xv rfl ((unhide H3).own3.alloc _) ⟨w3'.heap.size, 0, none⟩ 1 1 [.int .u8 via] rfl rfl (news_alloc w3' #[.int .u8 via] 5) (one_cell rfl) (by omega) (unhide HMX) (by have := unhide HM; omega) (Nat.le_trans (unhide H3).size (by simp)) (w3'.heap.size + 1) (by simp) ?_; intro b3 cap3 w4 ho2 hg2 hat2 hlt2; have HP := hide ((unhide H3).put 3 (by omega) ((Below.refl w3'.heap.size w3').alloc (Nat.le_refl _) _) 1 [.int .u8 via] ho2 hg2 (hat2.imp (fun x => x) (fun x => x.trans (by simp)))); have y0 : w4.cell? ⟨B, 7, none⟩ = some d := (unhide HP).2.1; have yf : w4.frozen? ⟨B, 7, none⟩ = false := (unhide HP).2.2.1; clear ho2 hg2 hat2)
     refine unhide HC0 _ _ ?_
     clear HC0
     have H4 : Hid (BdAt w0 (w4.setCell ⟨B, 7, none⟩ (.slice (some ⟨b3, 0, none⟩) (m + 1) cap3)) B _ _ _) := hide (unhide HP).1
     have HF2 : Hid (FarFrom w (w4.setCell ⟨B, 7, none⟩ (.slice (some ⟨b3, 0, none⟩) (m + 1) cap3)) B (st a b c d e f) _) := hide ((unhide HF).trans (unhide HP).2.2.2)
     clear HP q0 y0 yf H3 HF
     rw [upd_st3, upd_st3, upd_st3] at H4
     rw [upd_st3] at HF2
     have HF := HF2
     clear HF2
     revert H4 HF
     generalize w4.setCell ⟨B, 7, none⟩ (.slice (some ⟨b3, 0, none⟩) (m + 1) cap3) = w4'
     intro H4 HF
     have q0 : w4'.cell? ⟨B, 8, none⟩ = some e := (unhide H4).c4
     refine wp_seq_k (fun K0 hK0 => ?_)
     have HC0 := hide hK0
     clear hK0
     go_wp2_with (at_builtin; refine wpList_append_lies _ rfl _ _ 33 rfl w0.heap.size 5 i5 (.int .u8 0) 1 1 Fagg.underlying33 hi5 hzi5 hsi5 hbi5 rfl (by decide) e m xp rfl ((unhide H4).own4.alloc _) ⟨w4'.heap.size, 0, none⟩ 1 1 [.int .u8 dep] rfl rfl (news_alloc w4' #[.int .u8 dep] 5) (one_cell rfl) (by omega) (unhide HMX) (by have := unhide HM; omega) (Nat.le_trans (unhide H4).size (by simp)) (w4'.heap.size + 1) (by simp) ?_; intro b4 cap4 w5 ho2 hg2 hat2 hlt2; have HP := hide ((unhide H4).put 4 (by omega) ((Below.refl w4'.heap.size w4').alloc (Nat.le_refl _) _) 1 [.int .u8 dep] ho2 hg2 (hat2.imp (fun x => x) (fun x => x.trans (by simp)))); have y0 : w5.cell? ⟨B, 8, none⟩ = some e := (unhide HP).2.1; have yf : w5.frozen? ⟨B, 8, none⟩ = false := (unhide HP).2.2.1; clear ho2 hg2 hat2)
     refine unhide HC0 _ _ ?_
     clear HC0
     have H5 : Hid (BdAt w0 (w5.setCell ⟨B, 8, none⟩ (.slice (some ⟨b4, 0, none⟩) (m + 1) cap4)) B _ _ _) := hide (unhide HP).1
     have HF2 : Hid (FarFrom w (w5.setCell ⟨B, 8, none⟩ (.slice (some ⟨b4, 0, none⟩) (m + 1) cap4)) B (st a b c d e f) _) := hide ((unhide HF).trans (unhide HP).2.2.2)
     clear HP q0 y0 yf H4 HF
     rw [upd_st4, upd_st4, upd_st4] at H5
     rw [upd_st4] at HF2
     have HF := HF2
     clear HF2
     revert H5 HF
     generalize w5.setCell ⟨B, 8, none⟩ (.slice (some ⟨b4, 0, none⟩) (m + 1) cap4) = w5'
     intro H5 HF
     have q0 : w5'.cell? ⟨B, 9, none⟩ = some f := (unhide H5).c5
     go_wp2_with (at_builtin; refine wpList_append_lies _ rfl _ _ 134 rfl w0.heap.size 4 i4 (.bool false) 1 1 Fagg.underlying134 hi4 hzi4 hsi4 hbi4 rfl (by decide) f m xd rfl ((unhide H5).own5.alloc _) ⟨w5'.heap.size, 0, none⟩ 1 1 [.bool false] rfl rfl (news_alloc w5' #[.bool false] 4) (one_cell rfl) (by omega) (unhide HMX) (by have := unhide HM; omega) (Nat.le_trans (unhide H5).size (by simp)) (w5'.heap.size + 1) (by simp) ?_; intro b5 cap5 w6 ho2 hg2 hat2 hlt2; have HP := hide ((unhide H5).put 5 (by omega) ((Below.refl w5'.heap.size w5').alloc (Nat.le_refl _) _) 1 [.bool false] ho2 hg2 (hat2.imp (fun x => x) (fun x => x.trans (by simp)))); have y0 : w6.cell? ⟨B, 9, none⟩ = some f := (unhide HP).2.1; have yf : w6.frozen? ⟨B, 9, none⟩ = false := (unhide HP).2.2.1; clear ho2 hg2 hat2)
     have H6 : Hid (BdAt w0 (w6.setCell ⟨B, 9, none⟩ (.slice (some ⟨b5, 0, none⟩) (m + 1) cap5)) B _ _ _) := hide (unhide HP).1
     have HF2 : Hid (FarFrom w (w6.setCell ⟨B, 9, none⟩ (.slice (some ⟨b5, 0, none⟩) (m + 1) cap5)) B (st a b c d e f) _) := hide ((unhide HF).trans (unhide HP).2.2.2)
     clear HP q0 y0 yf H5 HF
     rw [upd_st5, upd_st5, upd_st5] at H6
     rw [upd_st5] at HF2
     have HF := HF2
     clear HF2
     exact bodyPost_end (v := .tuple #[]) (by simp [results, Fagg.results127, go_sem]) rfl ⟨rfl, _, _, _, _, _, unhide HF, unhide H6⟩)
end Go.Proofs.Ygcfag
