/-
  WALKS: codec.Canon.
-/
import Derived.Test.YgcfagW106
namespace Go.Proofs.Ygcfag
open Go.RowKit
set_option linter.unusedVariables false
set_option linter.unusedSimpArgs false

theorem slot0 (w : World) (C p : Nat) (v : Value) : ((w.setCell ⟨C, p, none⟩ v).alloc (.cells #[.int .u16 0, .int .i16 0] 191)).cell? ⟨w.heap.size, 0, none⟩ = some (.int .u16 0) := by
  rw [World.cell?_alloc_at _ _ _ _ (by simp)]; rfl
theorem slot1 (w : World) (C p : Nat) (v : Value) : ((w.setCell ⟨C, p, none⟩ v).alloc (.cells #[.int .u16 0, .int .i16 0] 191)).cell? ⟨w.heap.size, 1, none⟩ = some (.int .i16 0) := by
  rw [World.cell?_alloc_at _ _ _ _ (by simp)]; rfl
set_option maxHeartbeats 1000000 in
set_option maxRecDepth 100000 in
theorem canon_any (T B cap d capd : Nat) (A : Option Addr) (ys : List Int) (w : World) (ht : TreeAt w T B cap A d capd ys) (hd : d ≤ 8) :
    Calls Fagg.prog 39 #[.pointer (some ⟨T, 0, none⟩)] w fun e w' => ∃ G cap', e = .returned (.tuple #[.slice (some ⟨G, 0, none⟩) (trimN ys d + 1) cap', .bool true]) ∧ Sl .u64 w' (some ⟨G, 0, none⟩) ((rootW (trimN ys d) : Int) :: ys.take (trimN ys d)) ∧ Below w.heap.size w w' := by
  have HCH := hide (tcheck_any T B cap d capd A ys w ht hd)
  have HNO := hide (fun W (hW : Below w.heap.size w W) => norm_any T B cap d capd A ys W (ht.below hW) hd)
  have hle : trimN ys d ≤ 8 := Nat.le_trans (trimN_le ys d) hd
  have HLE : Hid ((ys.take (trimN ys d)).length = trimN ys d) := hide (by rw [List.length_take, ht.len]; exact Nat.min_eq_left (trimN_le ys d))
  generalize trimN ys d = t at *
  generalize ys.take t = zs at *
  clear ht hd
  go_enter Fagg.func39, Fagg.ntmps39
  refine wp_seq_k (fun K0 hK0 => ?_)
  have HC0 := hide hK0
  clear hK0
  go_wp2_with fail
  refine unhide HC0 _ _ ?_
  clear HC0
  refine wp_seq_k (fun K0 hK0 => ?_)
  have HC0 := hide hK0
  clear hK0
  go_wp2_with (go_at_call 36; with_reducible refine (unhide HCH).mono ?_; rintro e w1 ⟨rfl, hb1⟩; have HB1 := hide hb1; clear hb1)
  refine unhide HC0 _ _ ?_
  clear HC0
  refine wp_seq_k (fun K0 hK0 => ?_)
  have HC0 := hide hK0
  clear hK0
  have HST : Hid (CSt w w1.drew none none none t zs) := hide (CSt.start (unhide HB1).drew)
  suffices HFI : Hid (∀ C G O N A' c' w', CanAt w w' C G O N A' t c' 16 zs [0] 0 → K0 ⟨#[.pointer (some ⟨T, 0, none⟩), undef, .slice none 0 0, .bool false, .pointer (some ⟨C, 0, none⟩), undef, .pointer (some ⟨T, 0, none⟩), .bool true, .bool false, .pointer (some ⟨T, 0, none⟩), .pointer (some ⟨O, 0, none⟩), .slice (some ⟨G, 0, none⟩) 1 16, .agg (canCs (.pointer (some ⟨O, 0, none⟩)) (.slice (some ⟨G, 0, none⟩) 1 16)).toArray, undef, undef, undef, undef, undef, undef, undef, undef, undef, undef, undef, undef, undef, undef, undef, undef, undef, undef, undef, undef, undef, undef, undef, undef, undef, undef, undef, undef, undef, undef, undef], []⟩ w') by
    clear HB1 HCH HC0
    refine wp_region_held_drew (S := fun _ => True) (by kernel_rfl) trivial (fun _ => ?_)
    generalize w1.drew = w2 at HST ⊢
    refine wpAnyH_take (i := 0) (v := .pointer (some ⟨T, 0, none⟩)) rfl (by kernel_rfl) (by kernel_rfl) (by kernel_rfl) (fun _ _ _ h => h) (Or.inl ⟨by rfl, ?_⟩) trivial ?_
    · intro W hW; go_simp
    try simp only [Act.put, List.setIfInBounds_toArray, List.set_cons_zero, List.set_cons_succ]
    refine wpAnyH_ready (rs := [1, 2, 4]) (by kernel_rfl) (by simp) ?_
    refine AllReadyH.cons (o := o106_1) rfl (fun K hK => ?_) ?_
    · go_simp
      go_wp2_with (go_at_call 38; with_reducible refine (unhide HNO _ (unhide HST).bel).mono ?_; rintro e w11 ⟨O, N, A', c', rfl, ht3, hf3, hb3⟩; have HST2 := hide ((unhide HST).call hb3 O N A' c' ht3 hf3); clear ht3 hf3 hb3)
      refine hK.out _ _ trivial (fun _ => ?_)
      clear hK K
      try simp only [Act.put, List.setIfInBounds_toArray, List.set_cons_zero, List.set_cons_succ]
      clear HST
      have HST := HST2
      clear HST2
      refine wpAnyH_ready (rs := [2, 4]) (by kernel_rfl) (by simp) ?_
      refine AllReadyH.cons (o := o106_2) rfl (fun K hK => ?_) ?_
      · rw [if_pos (by rfl)]
        refine wp_make16 rfl ?_
        have HST2 := hide ((unhide HST).make)
        clear HST
        generalize World.alloc w11 (.cells (List.replicate 16 (Value.int .u64 0)).toArray 32) = w12 at HST2 ⊢
        generalize (w11).heap.size = G at HST2 ⊢
        refine hK.out _ _ trivial (fun _ => ?_)
        clear hK K
        try simp only [Act.put, List.setIfInBounds_toArray, List.set_cons_zero, List.set_cons_succ]
        have HST := HST2
        clear HST2
        refine wpAnyH_ready (rs := [3, 4]) (by kernel_rfl) (by simp) ?_
        refine AllReadyH.cons (o := o106_3) rfl (fun K hK => ?_) ?_
        · rw [if_pos (by rfl)]
          refine wp_built (cells := (canCs (.pointer (some ⟨O, 0, none⟩)) (.slice (some ⟨G, 0, none⟩) 1 16)).toArray) #[(0, .tmp 10), (1, .tmp 11)] rfl (by simp only [List.map_toArray, List.map_cons, List.map_nil]; exact built194 O G) ?_
          refine hK.out _ _ trivial (fun _ => ?_)
          clear hK K
          try simp only [Act.put, List.setIfInBounds_toArray, List.set_cons_zero, List.set_cons_succ]
          refine wpAnyH_ready (rs := [4]) (by kernel_rfl) (by simp) ?_
          refine AllReadyH.cons (o := o106_4) rfl (fun K hK => ?_) ?_
          · rw [if_pos (by rfl)]
            refine wp_alloc_big info194 rfl ?_
            have HST2 := hide ((unhide HST).alloc)
            clear HST
            generalize World.alloc w12 (.cells (canCs (.pointer none) (.slice none 0 0)).toArray 194) = w14 at HST2 ⊢
            generalize (w12).heap.size = C at HST2 ⊢
            refine hK.out _ _ trivial (fun _ => ?_)
            clear hK K
            try simp only [Act.put, List.setIfInBounds_toArray, List.set_cons_zero, List.set_cons_succ]
            have HST := HST2
            clear HST2
            refine wpAnyH_ready (rs := [5]) (by kernel_rfl) (by simp) ?_
            refine AllReadyH.cons (o := o106_5) rfl (fun K hK => ?_) ?_
            · rw [if_pos (by rfl)]
              refine wp_store_mid 194 _ _ rfl C 0 (canCs (.pointer (some ⟨O, 0, none⟩)) (.slice (some ⟨G, 0, none⟩) 1 16)).toArray rfl rfl (can_there (unhide HST)) (can_size O G) (all_oneCell_toArray (canCs_one O G)) ?_
              refine hK.out _ _ trivial (fun _ => ?_)
              clear hK K
              try simp only [Act.put, List.setIfInBounds_toArray, List.set_cons_zero, List.set_cons_succ]
              refine wpAnyH_done (by kernel_rfl) ?_ _
              exact unhide HFI C G O N A' c' _ (can_begin (unhide HST))
            exact AllReadyH.nil
          exact AllReadyH.nil
        refine AllReadyH.cons (o := o106_4) rfl (fun K hK => ?_) ?_
        · rw [if_pos (by rfl)]
          refine wp_alloc_big info194 rfl ?_
          have HST2 := hide ((unhide HST).alloc)
          clear HST
          generalize World.alloc w12 (.cells (canCs (.pointer none) (.slice none 0 0)).toArray 194) = w13 at HST2 ⊢
          generalize (w12).heap.size = C at HST2 ⊢
          refine hK.out _ _ trivial (fun _ => ?_)
          clear hK K
          try simp only [Act.put, List.setIfInBounds_toArray, List.set_cons_zero, List.set_cons_succ]
          have HST := HST2
          clear HST2
          refine wpAnyH_ready (rs := [3]) (by kernel_rfl) (by simp) ?_
          refine AllReadyH.cons (o := o106_3) rfl (fun K hK => ?_) ?_
          · rw [if_pos (by rfl)]
            refine wp_built (cells := (canCs (.pointer (some ⟨O, 0, none⟩)) (.slice (some ⟨G, 0, none⟩) 1 16)).toArray) #[(0, .tmp 10), (1, .tmp 11)] rfl (by simp only [List.map_toArray, List.map_cons, List.map_nil]; exact built194 O G) ?_
            refine hK.out _ _ trivial (fun _ => ?_)
            clear hK K
            try simp only [Act.put, List.setIfInBounds_toArray, List.set_cons_zero, List.set_cons_succ]
            refine wpAnyH_ready (rs := [5]) (by kernel_rfl) (by simp) ?_
            refine AllReadyH.cons (o := o106_5) rfl (fun K hK => ?_) ?_
            · rw [if_pos (by rfl)]
              refine wp_store_mid 194 _ _ rfl C 0 (canCs (.pointer (some ⟨O, 0, none⟩)) (.slice (some ⟨G, 0, none⟩) 1 16)).toArray rfl rfl (can_there (unhide HST)) (can_size O G) (all_oneCell_toArray (canCs_one O G)) ?_
              refine hK.out _ _ trivial (fun _ => ?_)
              clear hK K
              try simp only [Act.put, List.setIfInBounds_toArray, List.set_cons_zero, List.set_cons_succ]
              refine wpAnyH_done (by kernel_rfl) ?_ _
              exact unhide HFI C G O N A' c' _ (can_begin (unhide HST))
            exact AllReadyH.nil
          exact AllReadyH.nil
        exact AllReadyH.nil
      refine AllReadyH.cons (o := o106_4) rfl (fun K hK => ?_) ?_
      · rw [if_pos (by rfl)]
        refine wp_alloc_big info194 rfl ?_
        have HST2 := hide ((unhide HST).alloc)
        clear HST
        generalize World.alloc w11 (.cells (canCs (.pointer none) (.slice none 0 0)).toArray 194) = w12 at HST2 ⊢
        generalize (w11).heap.size = C at HST2 ⊢
        refine hK.out _ _ trivial (fun _ => ?_)
        clear hK K
        try simp only [Act.put, List.setIfInBounds_toArray, List.set_cons_zero, List.set_cons_succ]
        have HST := HST2
        clear HST2
        refine wpAnyH_ready (rs := [2]) (by kernel_rfl) (by simp) ?_
        refine AllReadyH.cons (o := o106_2) rfl (fun K hK => ?_) ?_
        · rw [if_pos (by rfl)]
          refine wp_make16 rfl ?_
          have HST2 := hide ((unhide HST).make)
          clear HST
          generalize World.alloc w12 (.cells (List.replicate 16 (Value.int .u64 0)).toArray 32) = w13 at HST2 ⊢
          generalize (w12).heap.size = G at HST2 ⊢
          refine hK.out _ _ trivial (fun _ => ?_)
          clear hK K
          try simp only [Act.put, List.setIfInBounds_toArray, List.set_cons_zero, List.set_cons_succ]
          have HST := HST2
          clear HST2
          refine wpAnyH_ready (rs := [3]) (by kernel_rfl) (by simp) ?_
          refine AllReadyH.cons (o := o106_3) rfl (fun K hK => ?_) ?_
          · rw [if_pos (by rfl)]
            refine wp_built (cells := (canCs (.pointer (some ⟨O, 0, none⟩)) (.slice (some ⟨G, 0, none⟩) 1 16)).toArray) #[(0, .tmp 10), (1, .tmp 11)] rfl (by simp only [List.map_toArray, List.map_cons, List.map_nil]; exact built194 O G) ?_
            refine hK.out _ _ trivial (fun _ => ?_)
            clear hK K
            try simp only [Act.put, List.setIfInBounds_toArray, List.set_cons_zero, List.set_cons_succ]
            refine wpAnyH_ready (rs := [5]) (by kernel_rfl) (by simp) ?_
            refine AllReadyH.cons (o := o106_5) rfl (fun K hK => ?_) ?_
            · rw [if_pos (by rfl)]
              refine wp_store_mid 194 _ _ rfl C 0 (canCs (.pointer (some ⟨O, 0, none⟩)) (.slice (some ⟨G, 0, none⟩) 1 16)).toArray rfl rfl (can_there (unhide HST)) (can_size O G) (all_oneCell_toArray (canCs_one O G)) ?_
              refine hK.out _ _ trivial (fun _ => ?_)
              clear hK K
              try simp only [Act.put, List.setIfInBounds_toArray, List.set_cons_zero, List.set_cons_succ]
              refine wpAnyH_done (by kernel_rfl) ?_ _
              exact unhide HFI C G O N A' c' _ (can_begin (unhide HST))
            exact AllReadyH.nil
          exact AllReadyH.nil
        exact AllReadyH.nil
      exact AllReadyH.nil
    refine AllReadyH.cons (o := o106_2) rfl (fun K hK => ?_) ?_
    · rw [if_pos (by rfl)]
      refine wp_make16 rfl ?_
      have HST2 := hide ((unhide HST).make)
      clear HST
      generalize World.alloc w2 (.cells (List.replicate 16 (Value.int .u64 0)).toArray 32) = w11 at HST2 ⊢
      generalize (w2).heap.size = G at HST2 ⊢
      refine hK.out _ _ trivial (fun _ => ?_)
      clear hK K
      try simp only [Act.put, List.setIfInBounds_toArray, List.set_cons_zero, List.set_cons_succ]
      have HST := HST2
      clear HST2
      refine wpAnyH_ready (rs := [1, 4]) (by kernel_rfl) (by simp) ?_
      refine AllReadyH.cons (o := o106_1) rfl (fun K hK => ?_) ?_
      · go_simp
        go_wp2_with (go_at_call 38; with_reducible refine (unhide HNO _ (unhide HST).bel).mono ?_; rintro e w12 ⟨O, N, A', c', rfl, ht3, hf3, hb3⟩; have HST2 := hide ((unhide HST).call hb3 O N A' c' ht3 hf3); clear ht3 hf3 hb3)
        refine hK.out _ _ trivial (fun _ => ?_)
        clear hK K
        try simp only [Act.put, List.setIfInBounds_toArray, List.set_cons_zero, List.set_cons_succ]
        clear HST
        have HST := HST2
        clear HST2
        refine wpAnyH_ready (rs := [3, 4]) (by kernel_rfl) (by simp) ?_
        refine AllReadyH.cons (o := o106_3) rfl (fun K hK => ?_) ?_
        · rw [if_pos (by rfl)]
          refine wp_built (cells := (canCs (.pointer (some ⟨O, 0, none⟩)) (.slice (some ⟨G, 0, none⟩) 1 16)).toArray) #[(0, .tmp 10), (1, .tmp 11)] rfl (by simp only [List.map_toArray, List.map_cons, List.map_nil]; exact built194 O G) ?_
          refine hK.out _ _ trivial (fun _ => ?_)
          clear hK K
          try simp only [Act.put, List.setIfInBounds_toArray, List.set_cons_zero, List.set_cons_succ]
          refine wpAnyH_ready (rs := [4]) (by kernel_rfl) (by simp) ?_
          refine AllReadyH.cons (o := o106_4) rfl (fun K hK => ?_) ?_
          · rw [if_pos (by rfl)]
            refine wp_alloc_big info194 rfl ?_
            have HST2 := hide ((unhide HST).alloc)
            clear HST
            generalize World.alloc w12 (.cells (canCs (.pointer none) (.slice none 0 0)).toArray 194) = w14 at HST2 ⊢
            generalize (w12).heap.size = C at HST2 ⊢
            refine hK.out _ _ trivial (fun _ => ?_)
            clear hK K
            try simp only [Act.put, List.setIfInBounds_toArray, List.set_cons_zero, List.set_cons_succ]
            have HST := HST2
            clear HST2
            refine wpAnyH_ready (rs := [5]) (by kernel_rfl) (by simp) ?_
            refine AllReadyH.cons (o := o106_5) rfl (fun K hK => ?_) ?_
            · rw [if_pos (by rfl)]
              refine wp_store_mid 194 _ _ rfl C 0 (canCs (.pointer (some ⟨O, 0, none⟩)) (.slice (some ⟨G, 0, none⟩) 1 16)).toArray rfl rfl (can_there (unhide HST)) (can_size O G) (all_oneCell_toArray (canCs_one O G)) ?_
              refine hK.out _ _ trivial (fun _ => ?_)
              clear hK K
              try simp only [Act.put, List.setIfInBounds_toArray, List.set_cons_zero, List.set_cons_succ]
              refine wpAnyH_done (by kernel_rfl) ?_ _
              exact unhide HFI C G O N A' c' _ (can_begin (unhide HST))
            exact AllReadyH.nil
          exact AllReadyH.nil
        refine AllReadyH.cons (o := o106_4) rfl (fun K hK => ?_) ?_
        · rw [if_pos (by rfl)]
          refine wp_alloc_big info194 rfl ?_
          have HST2 := hide ((unhide HST).alloc)
          clear HST
          generalize World.alloc w12 (.cells (canCs (.pointer none) (.slice none 0 0)).toArray 194) = w13 at HST2 ⊢
          generalize (w12).heap.size = C at HST2 ⊢
          refine hK.out _ _ trivial (fun _ => ?_)
          clear hK K
          try simp only [Act.put, List.setIfInBounds_toArray, List.set_cons_zero, List.set_cons_succ]
          have HST := HST2
          clear HST2
          refine wpAnyH_ready (rs := [3]) (by kernel_rfl) (by simp) ?_
          refine AllReadyH.cons (o := o106_3) rfl (fun K hK => ?_) ?_
          · rw [if_pos (by rfl)]
            refine wp_built (cells := (canCs (.pointer (some ⟨O, 0, none⟩)) (.slice (some ⟨G, 0, none⟩) 1 16)).toArray) #[(0, .tmp 10), (1, .tmp 11)] rfl (by simp only [List.map_toArray, List.map_cons, List.map_nil]; exact built194 O G) ?_
            refine hK.out _ _ trivial (fun _ => ?_)
            clear hK K
            try simp only [Act.put, List.setIfInBounds_toArray, List.set_cons_zero, List.set_cons_succ]
            refine wpAnyH_ready (rs := [5]) (by kernel_rfl) (by simp) ?_
            refine AllReadyH.cons (o := o106_5) rfl (fun K hK => ?_) ?_
            · rw [if_pos (by rfl)]
              refine wp_store_mid 194 _ _ rfl C 0 (canCs (.pointer (some ⟨O, 0, none⟩)) (.slice (some ⟨G, 0, none⟩) 1 16)).toArray rfl rfl (can_there (unhide HST)) (can_size O G) (all_oneCell_toArray (canCs_one O G)) ?_
              refine hK.out _ _ trivial (fun _ => ?_)
              clear hK K
              try simp only [Act.put, List.setIfInBounds_toArray, List.set_cons_zero, List.set_cons_succ]
              refine wpAnyH_done (by kernel_rfl) ?_ _
              exact unhide HFI C G O N A' c' _ (can_begin (unhide HST))
            exact AllReadyH.nil
          exact AllReadyH.nil
        exact AllReadyH.nil
      refine AllReadyH.cons (o := o106_4) rfl (fun K hK => ?_) ?_
      · rw [if_pos (by rfl)]
        refine wp_alloc_big info194 rfl ?_
        have HST2 := hide ((unhide HST).alloc)
        clear HST
        generalize World.alloc w11 (.cells (canCs (.pointer none) (.slice none 0 0)).toArray 194) = w12 at HST2 ⊢
        generalize (w11).heap.size = C at HST2 ⊢
        refine hK.out _ _ trivial (fun _ => ?_)
        clear hK K
        try simp only [Act.put, List.setIfInBounds_toArray, List.set_cons_zero, List.set_cons_succ]
        have HST := HST2
        clear HST2
        refine wpAnyH_ready (rs := [1]) (by kernel_rfl) (by simp) ?_
        refine AllReadyH.cons (o := o106_1) rfl (fun K hK => ?_) ?_
        · go_simp
          go_wp2_with (go_at_call 38; with_reducible refine (unhide HNO _ (unhide HST).bel).mono ?_; rintro e w13 ⟨O, N, A', c', rfl, ht3, hf3, hb3⟩; have HST2 := hide ((unhide HST).call hb3 O N A' c' ht3 hf3); clear ht3 hf3 hb3)
          refine hK.out _ _ trivial (fun _ => ?_)
          clear hK K
          try simp only [Act.put, List.setIfInBounds_toArray, List.set_cons_zero, List.set_cons_succ]
          clear HST
          have HST := HST2
          clear HST2
          refine wpAnyH_ready (rs := [3]) (by kernel_rfl) (by simp) ?_
          refine AllReadyH.cons (o := o106_3) rfl (fun K hK => ?_) ?_
          · rw [if_pos (by rfl)]
            refine wp_built (cells := (canCs (.pointer (some ⟨O, 0, none⟩)) (.slice (some ⟨G, 0, none⟩) 1 16)).toArray) #[(0, .tmp 10), (1, .tmp 11)] rfl (by simp only [List.map_toArray, List.map_cons, List.map_nil]; exact built194 O G) ?_
            refine hK.out _ _ trivial (fun _ => ?_)
            clear hK K
            try simp only [Act.put, List.setIfInBounds_toArray, List.set_cons_zero, List.set_cons_succ]
            refine wpAnyH_ready (rs := [5]) (by kernel_rfl) (by simp) ?_
            refine AllReadyH.cons (o := o106_5) rfl (fun K hK => ?_) ?_
            · rw [if_pos (by rfl)]
              refine wp_store_mid 194 _ _ rfl C 0 (canCs (.pointer (some ⟨O, 0, none⟩)) (.slice (some ⟨G, 0, none⟩) 1 16)).toArray rfl rfl (can_there (unhide HST)) (can_size O G) (all_oneCell_toArray (canCs_one O G)) ?_
              refine hK.out _ _ trivial (fun _ => ?_)
              clear hK K
              try simp only [Act.put, List.setIfInBounds_toArray, List.set_cons_zero, List.set_cons_succ]
              refine wpAnyH_done (by kernel_rfl) ?_ _
              exact unhide HFI C G O N A' c' _ (can_begin (unhide HST))
            exact AllReadyH.nil
          exact AllReadyH.nil
        exact AllReadyH.nil
      exact AllReadyH.nil
    refine AllReadyH.cons (o := o106_4) rfl (fun K hK => ?_) ?_
    · rw [if_pos (by rfl)]
      refine wp_alloc_big info194 rfl ?_
      have HST2 := hide ((unhide HST).alloc)
      clear HST
      generalize World.alloc w2 (.cells (canCs (.pointer none) (.slice none 0 0)).toArray 194) = w11 at HST2 ⊢
      generalize (w2).heap.size = C at HST2 ⊢
      refine hK.out _ _ trivial (fun _ => ?_)
      clear hK K
      try simp only [Act.put, List.setIfInBounds_toArray, List.set_cons_zero, List.set_cons_succ]
      have HST := HST2
      clear HST2
      refine wpAnyH_ready (rs := [1, 2]) (by kernel_rfl) (by simp) ?_
      refine AllReadyH.cons (o := o106_1) rfl (fun K hK => ?_) ?_
      · go_simp
        go_wp2_with (go_at_call 38; with_reducible refine (unhide HNO _ (unhide HST).bel).mono ?_; rintro e w12 ⟨O, N, A', c', rfl, ht3, hf3, hb3⟩; have HST2 := hide ((unhide HST).call hb3 O N A' c' ht3 hf3); clear ht3 hf3 hb3)
        refine hK.out _ _ trivial (fun _ => ?_)
        clear hK K
        try simp only [Act.put, List.setIfInBounds_toArray, List.set_cons_zero, List.set_cons_succ]
        clear HST
        have HST := HST2
        clear HST2
        refine wpAnyH_ready (rs := [2]) (by kernel_rfl) (by simp) ?_
        refine AllReadyH.cons (o := o106_2) rfl (fun K hK => ?_) ?_
        · rw [if_pos (by rfl)]
          refine wp_make16 rfl ?_
          have HST2 := hide ((unhide HST).make)
          clear HST
          generalize World.alloc w12 (.cells (List.replicate 16 (Value.int .u64 0)).toArray 32) = w13 at HST2 ⊢
          generalize (w12).heap.size = G at HST2 ⊢
          refine hK.out _ _ trivial (fun _ => ?_)
          clear hK K
          try simp only [Act.put, List.setIfInBounds_toArray, List.set_cons_zero, List.set_cons_succ]
          have HST := HST2
          clear HST2
          refine wpAnyH_ready (rs := [3]) (by kernel_rfl) (by simp) ?_
          refine AllReadyH.cons (o := o106_3) rfl (fun K hK => ?_) ?_
          · rw [if_pos (by rfl)]
            refine wp_built (cells := (canCs (.pointer (some ⟨O, 0, none⟩)) (.slice (some ⟨G, 0, none⟩) 1 16)).toArray) #[(0, .tmp 10), (1, .tmp 11)] rfl (by simp only [List.map_toArray, List.map_cons, List.map_nil]; exact built194 O G) ?_
            refine hK.out _ _ trivial (fun _ => ?_)
            clear hK K
            try simp only [Act.put, List.setIfInBounds_toArray, List.set_cons_zero, List.set_cons_succ]
            refine wpAnyH_ready (rs := [5]) (by kernel_rfl) (by simp) ?_
            refine AllReadyH.cons (o := o106_5) rfl (fun K hK => ?_) ?_
            · rw [if_pos (by rfl)]
              refine wp_store_mid 194 _ _ rfl C 0 (canCs (.pointer (some ⟨O, 0, none⟩)) (.slice (some ⟨G, 0, none⟩) 1 16)).toArray rfl rfl (can_there (unhide HST)) (can_size O G) (all_oneCell_toArray (canCs_one O G)) ?_
              refine hK.out _ _ trivial (fun _ => ?_)
              clear hK K
              try simp only [Act.put, List.setIfInBounds_toArray, List.set_cons_zero, List.set_cons_succ]
              refine wpAnyH_done (by kernel_rfl) ?_ _
              exact unhide HFI C G O N A' c' _ (can_begin (unhide HST))
            exact AllReadyH.nil
          exact AllReadyH.nil
        exact AllReadyH.nil
      refine AllReadyH.cons (o := o106_2) rfl (fun K hK => ?_) ?_
      · rw [if_pos (by rfl)]
        refine wp_make16 rfl ?_
        have HST2 := hide ((unhide HST).make)
        clear HST
        generalize World.alloc w11 (.cells (List.replicate 16 (Value.int .u64 0)).toArray 32) = w12 at HST2 ⊢
        generalize (w11).heap.size = G at HST2 ⊢
        refine hK.out _ _ trivial (fun _ => ?_)
        clear hK K
        try simp only [Act.put, List.setIfInBounds_toArray, List.set_cons_zero, List.set_cons_succ]
        have HST := HST2
        clear HST2
        refine wpAnyH_ready (rs := [1]) (by kernel_rfl) (by simp) ?_
        refine AllReadyH.cons (o := o106_1) rfl (fun K hK => ?_) ?_
        · go_simp
          go_wp2_with (go_at_call 38; with_reducible refine (unhide HNO _ (unhide HST).bel).mono ?_; rintro e w13 ⟨O, N, A', c', rfl, ht3, hf3, hb3⟩; have HST2 := hide ((unhide HST).call hb3 O N A' c' ht3 hf3); clear ht3 hf3 hb3)
          refine hK.out _ _ trivial (fun _ => ?_)
          clear hK K
          try simp only [Act.put, List.setIfInBounds_toArray, List.set_cons_zero, List.set_cons_succ]
          clear HST
          have HST := HST2
          clear HST2
          refine wpAnyH_ready (rs := [3]) (by kernel_rfl) (by simp) ?_
          refine AllReadyH.cons (o := o106_3) rfl (fun K hK => ?_) ?_
          · rw [if_pos (by rfl)]
            refine wp_built (cells := (canCs (.pointer (some ⟨O, 0, none⟩)) (.slice (some ⟨G, 0, none⟩) 1 16)).toArray) #[(0, .tmp 10), (1, .tmp 11)] rfl (by simp only [List.map_toArray, List.map_cons, List.map_nil]; exact built194 O G) ?_
            refine hK.out _ _ trivial (fun _ => ?_)
            clear hK K
            try simp only [Act.put, List.setIfInBounds_toArray, List.set_cons_zero, List.set_cons_succ]
            refine wpAnyH_ready (rs := [5]) (by kernel_rfl) (by simp) ?_
            refine AllReadyH.cons (o := o106_5) rfl (fun K hK => ?_) ?_
            · rw [if_pos (by rfl)]
              refine wp_store_mid 194 _ _ rfl C 0 (canCs (.pointer (some ⟨O, 0, none⟩)) (.slice (some ⟨G, 0, none⟩) 1 16)).toArray rfl rfl (can_there (unhide HST)) (can_size O G) (all_oneCell_toArray (canCs_one O G)) ?_
              refine hK.out _ _ trivial (fun _ => ?_)
              clear hK K
              try simp only [Act.put, List.setIfInBounds_toArray, List.set_cons_zero, List.set_cons_succ]
              refine wpAnyH_done (by kernel_rfl) ?_ _
              exact unhide HFI C G O N A' c' _ (can_begin (unhide HST))
            exact AllReadyH.nil
          exact AllReadyH.nil
        exact AllReadyH.nil
      exact AllReadyH.nil
    exact AllReadyH.nil
  clear HST HNO HB1 HCH
  refine hide (fun C G O N A' c' w5 hcan => ?_)
  refine unhide HC0 _ _ ?_
  clear HC0
  generalize Value.agg (canCs (.pointer (some ⟨O, 0, none⟩)) (.slice (some ⟨G, 0, none⟩) 1 16)).toArray = v12
  have HPU := hide (cpush_any hcan)
  have a0 := hcan.c0
  have a1 := hcan.tr.r
  clear hcan
  refine wp_seq_k (fun K0 hK0 => ?_)
  have HC0 := hide hK0
  clear hK0
  go_wp2_with (go_at_call 91; with_reducible refine (unhide HPU).mono ?_; rintro e w6 ⟨rfl, h6⟩; have H6 := hide h6; clear h6)
  refine unhide HC0 _ _ ?_
  clear HC0
  clear HPU a0 a1
  go_wp2_with fail
  go_loopg [19] 1 (fun k s wr => ((k = 1 ∧ Hid (CanAt w wr C G O N A' t c' 16 zs [0] 1)) ∨ (k = 0 ∧ Hid (∃ G' cap', CanAt w wr C G' O N A' t c' cap' zs ((rootW t : Int) :: zs) 0))))
  case atStart => exact .inl ⟨rfl, H6⟩
  case round =>
    rcases hrel with ⟨rfl, H7⟩ | ⟨rfl, HF⟩
    · have n7 := (unhide H7).cn
      have a2 := (unhide H7).c2
      have a3 := (unhide H7).c3
      have nf := (unhide H7).fz 1026 (by omega)
      go_wp2_with fail
      have h8 := ((unhide H7).setN 0).below ((Below.refl (wr.setCell ⟨C, 1026, none⟩ (.int .i64 0)).heap.size _).alloc (Nat.le_refl _) (.cells #[.int .u16 0, .int .i16 0] 191))
      have s0 : ((wr.setCell ⟨C, 1026, none⟩ (.int .i64 0)).alloc (.cells #[.int .u16 0, .int .i16 0] 191)).cell? ⟨wr.heap.size, 0, none⟩ = some (.int .u16 0) := slot0 _ _ _ _
      have s1 : ((wr.setCell ⟨C, 1026, none⟩ (.int .i64 0)).alloc (.cells #[.int .u16 0, .int .i16 0] 191)).cell? ⟨wr.heap.size, 1, none⟩ = some (.int .i16 0) := slot1 _ _ _ _
      clear n7 a2 a3 nf H7 H6
      revert h8 s0 s1
      generalize (wr.setCell ⟨C, 1026, none⟩ (.int .i64 0)).alloc (.cells #[.int .u16 0, .int .i16 0] 191) = w8
      generalize wr.heap.size = S
      intro h8 s0 s1
      have c0 := h8.c0
      have tn := h8.tr.n
      have HPL := hide (place_any (h8.below (Below.refl w8.heap.size w8).drew) hle)
      clear h8
      go_region_law (go_simp; go_wp2_with (go_at_call 92; with_reducible refine (unhide HPL).mono ?_; rintro e w9 ⟨rfl, hp9⟩; have H9 := hide hp9; clear hp9))
      all_goals (go_wp2_with fail)
      all_goals (go_roundg 0)
      all_goals first | exact .inr ⟨rfl, H9⟩ | omega
    · obtain ⟨G', cap', hf⟩ := unhide HF
      have n8 := hf.cn
      have b8 := hf.c1
      have HSL : Hid (Sl .u64 wr (some ⟨G', 0, none⟩) ((rootW t : Int) :: zs)) := hide (Sl.of_own hf.own).2.2.1
      have HBE := hide hf.bel
      clear hf HF
      go_wp2_with fail
      refine bodyPost_ret (v := .tuple #[.slice (some ⟨G', 0, none⟩) (zs.length + 1) cap', .bool true]) (by simp [results, Fagg.results39, go_sem]) rfl ⟨G', cap', by rw [unhide HLE], unhide HSL, unhide HBE⟩
end Go.Proofs.Ygcfag
