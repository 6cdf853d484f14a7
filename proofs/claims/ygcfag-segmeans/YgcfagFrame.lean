/-
  WHAT THE ROWS' FRAMES SHARE: a slice of slices of words that came in.
-/
import Derived.Test.YgcfagW22
import Derived.WalkKit
import Derived.ProofKit
import Derived.SizedLaws
import Derived.Deep.Matrix
import Derived.OpenShut
namespace Go.Proofs.Ygcfag
open Go.ChangeShapes Go.WideShapes Go.ChangeAt Go.RowKit Go.Deep
set_option linter.unusedVariables false

theorem weightsAll_mem {H : Type} {P : Program} {e : TypeId} : ∀ {l : List (DataW H)} {d : DataW H}, d ∈ l → ∀ n ∈ d.weights P e, n ∈ DataW.weightsAll P e l
  | d' :: r, d, hd, n, hn => by
    simp only [DataW.weightsAll, List.mem_append]
    rcases List.mem_cons.1 hd with rfl | h
    · exact Or.inl hn
    · exact Or.inr (weightsAll_mem h n hn)

/-- The reach of a row inside a slice of slices. -/
theorem sized_inner {H : Type} {P : Program} {ts : List TypeId} {ds : List (DataW H)} (h : (DataW.weightsEach P ts ds).all (· ≤ reachBytes) = true) {j : Nat} {t e q : TypeId} {elems spare e' sp' : List (DataW H)}
    (ht : ts[j]? = some t) (hd : ds[j]? = some (.slice elems spare)) (hu : P.underlying t = some (.slice e)) (hu2 : P.underlying e = some (.slice q)) (hx : DataW.slice e' sp' ∈ elems) : (e'.length + sp'.length) * P.bytesOf q ≤ reachBytes := by
  refine of_decide_eq_true (List.all_eq_true.1 h _ (DataW.weights_mem_each ht hd _ ?_))
  simp only [DataW.weights, hu, List.mem_cons, List.mem_append]
  exact Or.inr (Or.inl (weightsAll_mem hx _ (by simp [DataW.weights, hu2])))

theorem bytes32 : Fagg.prog.bytesOf 32 = 8 := by kernel_rfl

theorem wds_of {xs : List Int} (h : ∀ n ∈ xs, (Lit.int .u64 n).wf = true) : Wds xs := by
  intro i
  rw [List.getD_eq_getElem?_getD]
  cases hi : xs[i]? with
  | none => simp
  | some z =>
    have := bounds_u64 (h z (List.mem_of_getElem? hi))
    simp; omega

/-- A slice of slices of words that came in: its segments. -/
theorem segs_open {H : Type} {enc : TypeId × Value → H} {W : World} {base fuel : Nat} {held : Bool} {a : Option Addr} {len cap : Nat} {d : DataW H} {p : List MemPlace}
    (h : DataW.trod enc Fagg.prog W base (fun _ => true) held fuel 54 [.slice a len cap] = some (d, p)) :
    ∃ ms : List (List Int), ms.length = len ∧ len ≤ cap ∧ cap ≤ maxLen ∧ SegsAt W a ms ∧ (∀ m ∈ ms, ∀ n ∈ m, (Lit.int .u64 n).wf = true) ∧
      ∀ (ts : List TypeId) (ds : List (DataW H)) (j : Nat), (DataW.weightsEach Fagg.prog ts ds).all (· ≤ reachBytes) = true → ts[j]? = some 54 → ds[j]? = some d → ∀ m ∈ ms, m.length ≤ 17592186043904 := by
  rcases open_int_rows (k := .u64) Fagg.underlying54 Fagg.underlying44 Fagg.underlying32 (by kernel_rfl) (by kernel_rfl) h with ⟨hcs, hx⟩ | ⟨x, l, c, A, L, C, Z, hcs, _, hl, hm, hx, hrows⟩
  · simp at hcs
    obtain ⟨rfl, rfl, rfl⟩ := hcs
    exact ⟨[], rfl, by omega, by unfold maxLen; omega, .inl rfl, by simp, by simp⟩
  · simp at hcs
    obtain ⟨rfl, rfl, rfl⟩ := hcs
    simp only [Prod.mk.injEq] at hx
    obtain ⟨rfl, rfl⟩ := hx
    have hlen : ∀ r, r < len → ((Z r).take (L r)).length = L r := fun r hr => by
      obtain ⟨_, h1, _, h3, _⟩ := hrows r (by omega)
      simp; omega
    have hget : ∀ r, r < len → ((List.range len).map fun r => (Z r).take (L r)).getD r [] = (Z r).take (L r) := fun r hr => by
      simp [List.getD, hr]
    refine ⟨(List.range len).map fun r => (Z r).take (L r), by simp, hl, hm, ?_, ?_, ?_⟩
    · by_cases h0 : len = 0
      · subst h0; exact .inl (by simp)
      · obtain ⟨b, off, sp⟩ := x
        have hsp : sp = none := by simpa [Addr.add] using World.cell?_spot (hrows 0 (by omega)).1
        subst hsp
        refine .inr ⟨b, off, rfl, fun i hi => ?_⟩
        have hi' : i < len := by simpa using hi
        obtain ⟨hc, h1, h2, h3, h4, h5, h6⟩ := hrows i (by omega)
        refine ⟨A i, C i, ?_, ?_, ?_⟩
        · rw [hget i hi', hlen i hi', ← hc, Addr.add_lit]
        · rw [hget i hi', hlen i hi']; exact h1
        · rw [hget i hi']
          by_cases hL : L i = 0
          · exact .inl (by rw [hL]; simp)
          · cases hA : A i with
            | none => have := h5 hA; omega
            | some a' =>
              obtain ⟨b', off', sp'⟩ := a'
              obtain ⟨_, hcell⟩ := h6 _ hA
              have hsp' : sp' = none := by simpa [Addr.add] using World.cell?_spot (hcell 0 (by omega))
              subst hsp'
              refine .inr ⟨b', off', rfl, fun j hj => ?_⟩
              rw [hlen i hi'] at hj
              have := hcell j (by omega)
              rw [Addr.add_lit] at this
              rw [this]
              simp [List.getD, hj]
    · intro m hm' n hn
      obtain ⟨r, hr, rfl⟩ := List.mem_map.1 hm'
      have hr' : r < len := by simpa using hr
      exact (hrows r (by omega)).2.2.2.2.1 n (List.mem_of_mem_take hn)
    · intro ts ds j hsz ht hd m hm'
      obtain ⟨r, hr, rfl⟩ := List.mem_map.1 hm'
      have hr' : r < len := by simpa using hr
      obtain ⟨_, h1, h2, h3, _, h5, _⟩ := hrows r (by omega)
      rw [hlen r hr']
      cases hA : A r with
      | none => have := h5 hA; omega
      | some a' =>
        have hin := sized_inner hsz (j := j) (t := 54) (e := 44) (q := 32) ht hd Fagg.underlying54 Fagg.underlying44
          (e' := lits .u64 ((Z r).take (L r))) (sp' := lits .u64 ((Z r).drop (L r)))
          (List.mem_map.2 ⟨r, List.mem_range.2 hr', by simp [intRow, hA]⟩)
        simp only [lits, List.length_map, List.length_take, List.length_drop, bytes32, reachBytes] at hin
        omega

theorem SegsAt.take {w : World} {a : Option Addr} {ms : List (List Int)} (h : SegsAt w a ms) (k : Nat) : SegsAt w a (ms.take k) := by
  rcases h with rfl | ⟨b, off, rfl, h⟩
  · exact .inl (by simp)
  · refine .inr ⟨b, off, rfl, fun i hi => ?_⟩
    have hi' : i < k ∧ i < ms.length := by simp at hi; omega
    have e : (ms.take k).getD i [] = ms.getD i [] := by simp [List.getD, hi'.1]
    rw [e]
    exact h i hi'.2
end Go.Proofs.Ygcfag
