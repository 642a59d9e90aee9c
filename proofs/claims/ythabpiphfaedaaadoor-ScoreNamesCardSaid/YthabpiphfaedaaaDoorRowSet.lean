/- ROWS with sets: what the row gives of a list, of a set that came in. -/
import Derived.Test.YthabpiphfaedaaaDoorRow
import Derived.ChangeSlices
import Derived.Deep.Slices
import Derived.Test.YthabpiphfaedaaaDoorSet1
namespace Go.Proofs.YthabpiphfaedaaaDoor

section
open Go.ChangeShapes Go.WideShapes Go.ChangeAt Go.RowKit

set_option maxRecDepth 100000 in set_option maxHeartbeats 4000000 in
/-- A slice of integers of a kind that came in. -/
theorem open_row {H : Type} {enc : TypeId × Value → H} {W : World} {base : Nat} {t e : TypeId} {k : IntKind} (ht : Tryd.prog.underlying t = some (.slice e)) (he : Tryd.prog.underlying e = some (.int k)) (hc : Tryd.prog.cellsOf e = 1)
    {v : Value} {d : DataW H} {p : List MemPlace} (hv : Value.okWide Tryd.prog W .any base t v) (h : DataW.Trod enc Tryd.prog W 0 (fun _ => true) true t v d p) :
    ∃ (bas : Option Addr) (zs : List Int) (cap : Nat), v = .slice bas zs.length cap ∧ Rd W bas (zs.map (Value.int k)) ∧ zs.length ≤ maxLen ∧ (∀ x ∈ zs, k.min ≤ x ∧ x ≤ k.max) ∧ (bas = none → zs.length = 0 ∧ cap = 0) := by
  obtain ⟨a0, len, cap, rfl⟩ := okWide_slice ht hv
  obtain ⟨fuel, hf⟩ := h
  rcases open_ints ht he hc hf with ⟨hcs, _⟩ | ⟨a, len', cap', zs, hcs, _, hle, hmax, hall, _, hcell, hwf⟩
  · simp [Value.cells] at hcs
    obtain ⟨rfl, rfl, rfl⟩ := hcs
    exact ⟨none, [], 0, rfl, Rd.nil _ _, Nat.zero_le _, by simp, fun _ => ⟨rfl, rfl⟩⟩
  · simp [Value.cells] at hcs
    obtain ⟨rfl, rfl, rfl⟩ := hcs
    simp only [if_true] at hall
    have hl : (zs.take len).length = len := by simp; omega
    refine ⟨some a, zs.take len, cap, by rw [hl], ?_, by omega, ?_, fun h => by cases h⟩
    · intro i u hu
      have hi : i < len := by have := (List.getElem?_eq_some_iff.1 hu).1; rw [List.length_map, hl] at this; exact this
      have hsp : a.spot = none := by
        have h0 := hcell 0 (by omega)
        unfold Addr.add at h0
        rw [if_pos rfl] at h0
        unfold World.cell? at h0
        split at h0
        · split at h0
          · cases h0
          · next h => simpa using h
        · cases h0
      have hca := hcell i (by omega)
      obtain ⟨b, off, sp⟩ := a
      simp only at hsp
      subst hsp
      refine ⟨b, off, rfl, ?_⟩
      rw [Addr.add_lit] at hca
      rw [hca, ← hu]
      have : i < zs.length := by omega
      simp [List.getElem?_take, hi, this]
    · intro x hx
      exact by simpa [Lit.wf] using hwf x (List.mem_of_mem_take hx)

theorem map_cast_nat {zs : List Int} (h : ∀ x ∈ zs, IntKind.u64.min ≤ x ∧ x ≤ IntKind.u64.max) : ∃ ws : List Nat, zs.map (Value.int .u64) = wcells ws ∧ ws.length = zs.length ∧ W64 ws := by
  refine ⟨zs.map Int.toNat, ?_, by simp, ?_⟩
  · simp only [wcells, List.map_map]
    apply List.map_congr_left
    intro x hx
    have := (h x hx).1
    simp [IntKind.min, IntKind.signed] at this
    simp only [Function.comp_apply]
    rw [Int.toNat_of_nonneg this]
  · intro y hy
    obtain ⟨x, hx, rfl⟩ := List.mem_map.1 hy
    have h1 := h x hx
    simp [IntKind.min, IntKind.max, IntKind.signed, IntKind.bits] at h1
    omega

set_option maxRecDepth 100000 in set_option maxHeartbeats 4000000 in
theorem open_set {H : Type} {enc : TypeId × Value → H} {W : World} {base : Nat} {v : Value} {d : DataW H} {p : List MemPlace} (hv : Value.okWide Tryd.prog W .any base 31 v) (h : DataW.Trod enc Tryd.prog W 0 (fun _ => true) true 31 v d p) :
    ∃ (bas : Option Addr) (ws : List Nat) (cap : Nat), v = .slice bas ws.length cap ∧ (Rd W bas (wcells ws) ∧ W64 ws) ∧ (bas = none → ws.length = 0 ∧ cap = 0) := by
  obtain ⟨bas, zs, cap, rfl, hr, hl, hz, hn⟩ := open_row Tryd.underlying31 Tryd.underlying63 (by kernel_rfl) hv h
  obtain ⟨ws, e1, e2, e3⟩ := map_cast_nat hz
  rw [e1] at hr
  exact ⟨bas, ws, cap, by rw [e2], ⟨hr, e3⟩, by rw [e2]; exact hn⟩
end
end Go.Proofs.YthabpiphfaedaaaDoor
