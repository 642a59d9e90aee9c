/- ROWS: what every row leans on; values, opened; sets that came in. -/
import Derived.Test.YtofoenlhbmammaaRows
import Derived.ProofKit
import Derived.OpenShut
import Derived.ChangeOld
import Derived.Below
import Derived.ChangeSlices
import Derived.Deep.Slices
import Derived.Test.YtofoenlhbmammaaQ0OwnG13
import Derived.Test.YtofoenlhbmammaaQ0Set1G13
set_option linter.unusedVariables false
set_option linter.unusedSimpArgs false
namespace Go.Proofs.Ytofoenlhbmammaa

section
section
open Go.ChangeShapes Go.WideShapes Go.ChangeAt Go.RowKit

theorem ownKnob0 : ownKnob Try.prog.godebug = none := by kernel_rfl
theorem laidOut0 : laidOutB Try.prog = true := by kernel_rfl

/-- The arguments read on as they did. -/
theorem trodAll_below {H : Type} {enc : TypeId × Value → H} {W W' : World} (bel : Below W.heap.size W W') : ∀ (ts : List TypeId) (vs : List Value) (ds : List (DataW H)) (ps : List MemPlace),
    (∀ t ∈ ts, Try.prog.readableRec t = true ∧ t < Try.prog.types.size) → DataW.TrodAll enc Try.prog W 0 (fun _ => true) true ts vs ds ps →
    DataW.TrodAll enc Try.prog W' 0 (fun b => decide (b < W.heap.size)) true ts vs ds ps := by
  intro ts
  induction ts with
  | nil =>
    intro vs ds ps _ h
    obtain ⟨rfl, rfl, rfl⟩ := trodAll_nil h
    exact trodAll_mk0
  | cons t ts ih =>
    intro vs ds ps ht h
    obtain ⟨v, vs', d, ds', p, q, rfl, rfl, rfl, h0, hr⟩ := trodAll_cons h
    have hlt : ∀ x ∈ p, x.block < W.heap.size := by obtain ⟨m, hm⟩ := h0; exact DataW.trod_lt m _ _ _ hm
    exact trodAll_cons_mk (Below.trod laidOut0 (ht t (List.mem_cons_self ..)).1 (ht t (List.mem_cons_self ..)).2 h0 bel hlt) (ih _ _ _ (fun t' h' => ht t' (List.mem_cons_of_mem _ h')) hr)

/-- The number in a cell. -/
def numOf : Option Value → Int
  | some (.int _ x) => x
  | _ => 0

set_option maxRecDepth 100000 in set_option maxHeartbeats 4000000 in
/-- An aggregate of integers, opened. -/
theorem open_flat {t : TypeId} {n : Nat} {W : World} {base : Nat} {v : Value} (hd : (∃ fs, Try.prog.underlying t = some (.struct fs)) ∨ ∃ k e, Try.prog.underlying t = some (.array k e))
    (hc : Try.prog.cellsOf t = n) (hts : Try.prog.cellTypes Try.prog.depth t = some (List.replicate n 3)) (h : Value.okWide Try.prog W .any base t v) :
    ∃ l : List Int, l.length = n ∧ v = .agg (l.map (Value.int .i64)).toArray ∧ ∀ x ∈ l, IntKind.i64.has x := by
  have h' : ∃ cs : Array Value, v = .agg cs ∧ cs.size = Try.prog.cellsOf t ∧ Row.okWide Try.prog W .any base t cs := by
    unfold Value.okWide at h
    rcases hd with ⟨fs, e⟩ | ⟨k, e', e⟩ <;> (rw [e] at h; exact h)
  obtain ⟨cs, rfl, hsz, ts, hts', _, hall⟩ := h'
  rw [hts] at hts'
  cases hts'
  rw [hc] at hsz
  have key : ∀ i (hi : i < cs.size), ∃ x, cs[i] = .int .i64 x ∧ IntKind.i64.has x := by
    intro i hi
    obtain ⟨u, hu, hok⟩ := hall i cs[i] (by simp [hi])
    have e : u = 3 := by
      have := List.mem_of_getElem? hu
      exact (List.mem_replicate.1 this).2
    subst e
    generalize cs[i] = c at hok
    unfold Cell.okWide at hok
    rw [Try.underlying3] at hok
    unfold Cell.ok at hok
    rw [Try.underlying3] at hok
    cases c <;> simp at hok
    obtain ⟨rfl, hh⟩ := hok
    exact ⟨_, rfl, hh⟩
  refine ⟨(List.range cs.size).map (fun i => numOf cs[i]?), by simp [hsz], ?_, ?_⟩
  · congr 1
    apply Array.ext
    · simp
    · intro i h1 h2
      obtain ⟨x, hx, _⟩ := key i h1
      simp [h1, hx, numOf]
  · intro x hx
    simp only [List.mem_map, List.mem_range] at hx
    obtain ⟨i, hi, rfl⟩ := hx
    obtain ⟨y, hy, hh⟩ := key i hi
    simpa [hi, hy, numOf] using hh

set_option maxRecDepth 100000 in set_option maxHeartbeats 4000000 in
theorem open_dims {W : World} {base : Nat} {v : Value} (h : Value.okWide Try.prog W .any base 23 v) : ∃ d : V3, v = .agg #[.int .i64 d.x, .int .i64 d.y, .int .i64 d.z] := by
  obtain ⟨l, hl, rfl, _⟩ := open_flat (n := 3) (.inr ⟨_, _, Try.underlying23⟩) (by kernel_rfl) (by kernel_rfl) h
  match l, hl with
  | [x, y, z], _ => exact ⟨⟨x, y, z⟩, rfl⟩
set_option maxRecDepth 100000 in set_option maxHeartbeats 4000000 in
theorem open_box {W : World} {base : Nat} {v : Value} (h : Value.okWide Try.prog W .any base 27 v) : ∃ b : Bx, v = .agg #[.int .i64 b.b.x, .int .i64 b.b.y, .int .i64 b.b.z, .int .i64 b.s.x, .int .i64 b.s.y, .int .i64 b.s.z] := by
  obtain ⟨l, hl, rfl, _⟩ := open_flat (n := 6) (.inl ⟨_, Try.underlying27⟩) (by kernel_rfl) (by kernel_rfl) h
  match l, hl with
  | [a, b, c, x, y, z], _ => exact ⟨⟨⟨a, b, c⟩, ⟨x, y, z⟩⟩, rfl⟩
end

section
section
open Go.ChangeShapes Go.WideShapes Go.ChangeAt Go.RowKit

set_option maxRecDepth 100000 in set_option maxHeartbeats 4000000 in
/-- A slice of integers of a kind that came in. -/
theorem open_row {H : Type} {enc : TypeId × Value → H} {W : World} {base : Nat} {t e : TypeId} {k : IntKind} (ht : Try.prog.underlying t = some (.slice e)) (he : Try.prog.underlying e = some (.int k)) (hc : Try.prog.cellsOf e = 1)
    {v : Value} {d : DataW H} {p : List MemPlace} (hv : Value.okWide Try.prog W .any base t v) (h : DataW.Trod enc Try.prog W 0 (fun _ => true) true t v d p) :
    ∃ (bas : Option Addr) (zs : List Int) (cap : Nat), v = .slice bas zs.length cap ∧ Rd W bas (zs.map (Value.int k)) ∧ zs.length ≤ maxLen ∧ (∀ x ∈ zs, k.min ≤ x ∧ x ≤ k.max) ∧ (bas = none → zs.length = 0 ∧ cap = 0) := by
  obtain ⟨a0, len, cap, rfl⟩ := okWide_slice ht hv
  obtain ⟨fuel, hf⟩ := h
  rcases open_ints ht he hc hf with ⟨hcs, _⟩ | ⟨a, len', cap', zs, hcs, _, hle, hmax, hall, _, hcell, hwf⟩
  · simp [Value.cells] at hcs
    obtain ⟨rfl, rfl, rfl⟩ := hcs
    exact ⟨none, [], 0, rfl, Rd.nil _ _, Nat.zero_le _, by simp, fun _ => ⟨rfl, rfl⟩⟩
  · simp [Value.cells] at hcs
    obtain ⟨rfl, rfl, rfl⟩ := hcs
    simp only [if_true] at hall
    have hl : (zs.take len).length = len := by simp; omega
    refine ⟨some a, zs.take len, cap, by rw [hl], ?_, by omega, ?_, fun h => by cases h⟩
    · intro i u hu
      have hi : i < len := by have := (List.getElem?_eq_some_iff.1 hu).1; rw [List.length_map, hl] at this; exact this
      have hsp : a.spot = none := by
        have h0 := hcell 0 (by omega)
        unfold Addr.add at h0
        rw [if_pos rfl] at h0
        unfold World.cell? at h0
        split at h0
        · split at h0
          · cases h0
          · next h => simpa using h
        · cases h0
      have hca := hcell i (by omega)
      obtain ⟨b, off, sp⟩ := a
      simp only at hsp
      subst hsp
      refine ⟨b, off, rfl, ?_⟩
      rw [Addr.add_lit] at hca
      rw [hca, ← hu]
      have : i < zs.length := by omega
      simp [List.getElem?_take, hi, this]
    · intro x hx
      exact by simpa [Lit.wf] using hwf x (List.mem_of_mem_take hx)

theorem map_cast_nat {zs : List Int} (h : ∀ x ∈ zs, IntKind.u64.min ≤ x ∧ x ≤ IntKind.u64.max) : ∃ ws : List Nat, zs.map (Value.int .u64) = wcells ws ∧ ws.length = zs.length ∧ W64 ws := by
  refine ⟨zs.map Int.toNat, ?_, by simp, ?_⟩
  · simp only [wcells, List.map_map]
    apply List.map_congr_left
    intro x hx
    have := (h x hx).1
    simp [IntKind.min, IntKind.signed] at this
    simp only [Function.comp_apply]
    rw [Int.toNat_of_nonneg this]
  · intro y hy
    obtain ⟨x, hx, rfl⟩ := List.mem_map.1 hy
    have h1 := h x hx
    simp [IntKind.min, IntKind.max, IntKind.signed, IntKind.bits] at h1
    omega

set_option maxRecDepth 100000 in set_option maxHeartbeats 4000000 in
theorem open_set {H : Type} {enc : TypeId × Value → H} {W : World} {base : Nat} {v : Value} {d : DataW H} {p : List MemPlace} (hv : Value.okWide Try.prog W .any base 25 v) (h : DataW.Trod enc Try.prog W 0 (fun _ => true) true 25 v d p) :
    ∃ (bas : Option Addr) (ws : List Nat) (cap : Nat), v = .slice bas ws.length cap ∧ (Rd W bas (wcells ws) ∧ W64 ws) ∧ (bas = none → ws.length = 0 ∧ cap = 0) := by
  obtain ⟨bas, zs, cap, rfl, hr, hl, hz, hn⟩ := open_row Try.underlying25 Try.underlying48 (by kernel_rfl) hv h
  obtain ⟨ws, e1, e2, e3⟩ := map_cast_nat hz
  rw [e1] at hr
  exact ⟨bas, ws, cap, by rw [e2], ⟨hr, e3⟩, by rw [e2]; exact hn⟩
end
end
end
end Go.Proofs.Ytofoenlhbmammaa
