/- ROWS, CALENDARS: a slice of slots, a span, opened. -/
import Derived.Test.YtfikgjcmnooglaaRow
import Derived.ChangeSlices
import Derived.Deep.Slices
import Derived.Test.YtfikgjcmnooglaaSlots
namespace Go.Proofs.Ytfikgjcmnooglaa
open Go.ChangeShapes Go.WideShapes Go.ChangeAt Go.RowKit Go.Deep

set_option maxRecDepth 100000 in set_option maxHeartbeats 4000000 in
theorem span_cells {H : Type} {enc : TypeId × Value → H} {W : World} {n : Nat} {cs : List Value} {x : DataW H × List MemPlace} (h : DataW.trod enc Try.prog W 0 (fun _ => true) true n 24 cs = some x) : ∃ f t : Int, cs = [.int .i64 f, .int .i64 t] := by
  obtain ⟨xs, n', _, _, hlen, hxl, hf⟩ := DataW.trod_struct Try.underlying24 h
  have hl : cs.length = 2 := hlen.trans (by kernel_rfl)
  have hc : Try.prog.cellsOf 3 = 1 := by kernel_rfl
  have h0 := hf 0 _ rfl
  have h1 := hf 1 _ rfl
  match xs, hxl with
  | [y0, y1], _ =>
    match cs, hl with
    | [a, b], _ =>
      simp [hc] at h0 h1
      obtain ⟨p, e0, _⟩ := DataW.trod_int Try.underlying3 h0
      obtain ⟨q, e1, _⟩ := DataW.trod_int Try.underlying3 h1
      simp at e0 e1
      exact ⟨p, q, by rw [e0, e1]⟩
set_option maxRecDepth 100000 in set_option maxHeartbeats 4000000 in
theorem slot_cells {H : Type} {enc : TypeId × Value → H} {W : World} {n : Nat} {cs : List Value} {x : DataW H × List MemPlace} (h : DataW.trod enc Try.prog W 0 (fun _ => true) true n 57 cs = some x) : ∃ s : Sl, cs = s.cells := by
  obtain ⟨xs, n', _, _, hlen, hxl, hf⟩ := DataW.trod_struct Try.underlying57 h
  have hl : cs.length = 3 := hlen.trans (by kernel_rfl)
  have hc : Try.prog.cellsOf 3 = 1 := by kernel_rfl
  have hc2 : Try.prog.cellsOf 24 = 2 := by kernel_rfl
  have h0 := hf 0 _ rfl
  have h1 := hf 1 _ rfl
  match xs, hxl with
  | [y0, y1], _ =>
    match cs, hl with
    | [a, b, c], _ =>
      simp [hc, hc2] at h0 h1
      obtain ⟨f, t, e0⟩ := span_cells h0
      obtain ⟨o, e1, _⟩ := DataW.trod_int Try.underlying3 h1
      simp at e0 e1
      exact ⟨⟨f, t, o⟩, by rw [e0.1, e0.2, e1]; rfl⟩

set_option maxRecDepth 100000 in set_option maxHeartbeats 4000000 in
/-- A slice of slots that came in. -/
theorem open_slots {H : Type} {enc : TypeId × Value → H} {W : World} {base : Nat} {v : Value} {d : DataW H} {p : List MemPlace} (hv : Value.okWide Try.prog W .any base 22 v) (h : DataW.Trod enc Try.prog W 0 (fun _ => true) true 22 v d p) :
    ∃ (bas : Option Addr) (c : List Sl) (cap : Nat), v = .slice bas c.length cap ∧ Rd W bas (slc c) ∧ c.length ≤ cap ∧ (bas = none → c.length = 0 ∧ cap = 0) := by
  obtain ⟨a0, len, cap, rfl⟩ := okWide_slice Try.underlying22 hv
  obtain ⟨fuel, hf⟩ := h
  rcases open_slice Try.underlying22 hf with ⟨hcs, _⟩ | ⟨a, len', cap', m, n, D, Pl, hcs, hb, hle, hmax, hm, _, hi⟩
  · simp [Value.cells] at hcs
    obtain ⟨rfl, rfl, rfl⟩ := hcs
    exact ⟨none, [], 0, rfl, Rd.nil _ _, Nat.le_refl _, fun _ => ⟨rfl, rfl⟩⟩
  · simp [Value.cells] at hcs
    obtain ⟨rfl, rfl, rfl⟩ := hcs
    simp only [if_true] at hm
    have hc3 : Try.prog.cellsOf 57 = 3 := by kernel_rfl
    have hex : ∀ i, ∃ s : Sl, i < len → ∀ j, j < 3 → W.cell? ((a.add (i * 3)).add j) = s.cells[j]? := by
      intro i
      by_cases hlt : i < len
      · obtain ⟨cs', hcell, ht⟩ := hi i (by omega)
        obtain ⟨s, rfl⟩ := slot_cells ht
        rw [hc3] at hcell
        obtain ⟨_, _, hat⟩ := World.cells?_some hcell
        exact ⟨s, fun _ j hj => hat j hj⟩
      · exact ⟨⟨0, 0, 0⟩, fun h => absurd h hlt⟩
    obtain ⟨F, hF⟩ := Classical.skolem.1 hex
    have hl : ((List.range len).map F).length = len := by simp
    refine ⟨some a, (List.range len).map F, cap, by rw [hl], ?_, by omega, fun h => by cases h⟩
    intro i u hu
    have hil : i < len * 3 := by have := (List.getElem?_eq_some_iff.1 hu).1; rw [slc_len, hl] at this; exact this
    have hk : i / 3 < len := by omega
    have hsa := slc_at (c := (List.range len).map F) (k := i / 3) (by rw [hl]; exact hk) (i % 3) (Nat.mod_lt _ (by decide))
    rw [show i / 3 * 3 + i % 3 = i by omega, hu] at hsa
    have hcc := hF (i / 3) hk (i % 3) (Nat.mod_lt _ (by decide))
    rw [show ((List.range len).map F)[i / 3]'(by rw [hl]; exact hk) = F (i / 3) by simp] at hsa
    rw [← hsa] at hcc
    have hsp : a.spot = none := by
      have h0 := hF 0 (by omega) 0 (by decide)
      rw [Nat.zero_mul, show a.add 0 = a from by unfold Addr.add; rw [if_pos rfl], show a.add 0 = a from by unfold Addr.add; rw [if_pos rfl]] at h0
      unfold World.cell? at h0
      split at h0
      · split at h0
        · cases h0
        · next h => simpa using h
      · cases h0
    obtain ⟨b, off, sp⟩ := a
    simp only at hsp
    subst hsp
    refine ⟨b, off, rfl, ?_⟩
    rw [Addr.add_lit, Addr.add_lit, show off + i / 3 * 3 + i % 3 = off + i by omega] at hcc
    exact hcc

set_option maxRecDepth 100000 in set_option maxHeartbeats 4000000 in
theorem open_span {W : World} {base : Nat} {v : Value} (h : Value.okWide Try.prog W .any base 24 v) : ∃ f t : Int, v = .agg #[.int .i64 f, .int .i64 t] := by
  obtain ⟨l, hl, rfl, _⟩ := open_flat (n := 2) (.inl ⟨_, Try.underlying24⟩) (by kernel_rfl) (by kernel_rfl) h
  match l, hl with
  | [f, t], _ => exact ⟨f, t, rfl⟩
end Go.Proofs.Ytfikgjcmnooglaa
