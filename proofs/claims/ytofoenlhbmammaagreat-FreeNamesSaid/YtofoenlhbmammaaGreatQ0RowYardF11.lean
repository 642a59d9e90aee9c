/- ROWS: calendars, spans, sets, a machine's calendars, opened. -/
import Derived.ChangeSlices
import Derived.Deep.Slices
import Derived.SizedLaws
import Derived.Test.YtofoenlhbmammaaGreatQ2F11
import Derived.Test.YtofoenlhbmammaaGreatQ9F11
import Derived.Test.YtofoenlhbmammaaGreatQ0YardIF11
set_option linter.unusedVariables false
set_option linter.unusedSimpArgs false
namespace Go.Proofs.YtofoenlhbmammaaGreat

section
section
open Go.ChangeShapes Go.WideShapes Go.ChangeAt Go.RowKit Go.Deep

set_option maxRecDepth 100000 in set_option maxHeartbeats 4000000 in
theorem span_cells {H : Type} {enc : TypeId × Value → H} {W : World} {n : Nat} {cs : List Value} {x : DataW H × List MemPlace} (h : DataW.trod enc Tryz.prog W 0 (fun _ => true) true n 35 cs = some x) : ∃ f t : Int, cs = [.int .i64 f, .int .i64 t] := by
  obtain ⟨xs, n', _, _, hlen, hxl, hf⟩ := DataW.trod_struct Tryz.underlying35 h
  have hl : cs.length = 2 := hlen.trans (by kernel_rfl)
  have hc : Tryz.prog.cellsOf 3 = 1 := by kernel_rfl
  have h0 := hf 0 _ rfl
  have h1 := hf 1 _ rfl
  match xs, hxl with
  | [y0, y1], _ =>
    match cs, hl with
    | [a, b], _ =>
      simp [hc] at h0 h1
      obtain ⟨p, e0, _⟩ := DataW.trod_int Tryz.underlying3 h0
      obtain ⟨q, e1, _⟩ := DataW.trod_int Tryz.underlying3 h1
      simp at e0 e1
      exact ⟨p, q, by rw [e0, e1]⟩
set_option maxRecDepth 100000 in set_option maxHeartbeats 4000000 in
theorem slot_cells {H : Type} {enc : TypeId × Value → H} {W : World} {n : Nat} {cs : List Value} {x : DataW H × List MemPlace} (h : DataW.trod enc Tryz.prog W 0 (fun _ => true) true n 68 cs = some x) : ∃ s : Sl, cs = s.cells := by
  obtain ⟨xs, n', _, _, hlen, hxl, hf⟩ := DataW.trod_struct Tryz.underlying68 h
  have hl : cs.length = 3 := hlen.trans (by kernel_rfl)
  have hc : Tryz.prog.cellsOf 3 = 1 := by kernel_rfl
  have hc2 : Tryz.prog.cellsOf 35 = 2 := by kernel_rfl
  have h0 := hf 0 _ rfl
  have h1 := hf 1 _ rfl
  match xs, hxl with
  | [y0, y1], _ =>
    match cs, hl with
    | [a, b, c], _ =>
      simp [hc, hc2] at h0 h1
      obtain ⟨f, t, e0⟩ := span_cells h0
      obtain ⟨o, e1, _⟩ := DataW.trod_int Tryz.underlying3 h1
      simp at e0 e1
      exact ⟨⟨f, t, o⟩, by rw [e0.1, e0.2, e1]; rfl⟩

set_option maxRecDepth 100000 in set_option maxHeartbeats 4000000 in
/-- A slice of slots that came in. -/
theorem open_slots {H : Type} {enc : TypeId × Value → H} {W : World} {base : Nat} {v : Value} {d : DataW H} {p : List MemPlace} (hv : Value.okWide Tryz.prog W .any base 65 v) (h : DataW.Trod enc Tryz.prog W 0 (fun _ => true) true 65 v d p) :
    ∃ (bas : Option Addr) (c : List Sl) (cap : Nat), v = .slice bas c.length cap ∧ Rd W bas (slc c) ∧ c.length ≤ cap ∧ (bas = none → c.length = 0 ∧ cap = 0) := by
  obtain ⟨a0, len, cap, rfl⟩ := okWide_slice Tryz.underlying65 hv
  obtain ⟨fuel, hf⟩ := h
  rcases open_slice Tryz.underlying65 hf with ⟨hcs, _⟩ | ⟨a, len', cap', m, n, D, Pl, hcs, hb, hle, hmax, hm, _, hi⟩
  · simp [Value.cells] at hcs
    obtain ⟨rfl, rfl, rfl⟩ := hcs
    exact ⟨none, [], 0, rfl, Rd.nil _ _, Nat.le_refl _, fun _ => ⟨rfl, rfl⟩⟩
  · simp [Value.cells] at hcs
    obtain ⟨rfl, rfl, rfl⟩ := hcs
    simp only [if_true] at hm
    have hc3 : Tryz.prog.cellsOf 68 = 3 := by kernel_rfl
    have hex : ∀ i, ∃ s : Sl, i < len → ∀ j, j < 3 → W.cell? ((a.add (i * 3)).add j) = s.cells[j]? := by
      intro i
      by_cases hlt : i < len
      · obtain ⟨cs', hcell, ht⟩ := hi i (by omega)
        obtain ⟨s, rfl⟩ := slot_cells ht
        rw [hc3] at hcell
        obtain ⟨_, _, hat⟩ := World.cells?_some hcell
        exact ⟨s, fun _ j hj => hat j hj⟩
      · exact ⟨⟨0, 0, 0⟩, fun h => absurd h hlt⟩
    obtain ⟨F, hF⟩ := Classical.skolem.1 hex
    have hl : ((List.range len).map F).length = len := by simp
    refine ⟨some a, (List.range len).map F, cap, by rw [hl], ?_, by omega, fun h => by cases h⟩
    intro i u hu
    have hil : i < len * 3 := by have := (List.getElem?_eq_some_iff.1 hu).1; rw [slc_len, hl] at this; exact this
    have hk : i / 3 < len := by omega
    have hsa := slc_at (c := (List.range len).map F) (k := i / 3) (by rw [hl]; exact hk) (i % 3) (Nat.mod_lt _ (by decide))
    rw [show i / 3 * 3 + i % 3 = i by omega, hu] at hsa
    have hcc := hF (i / 3) hk (i % 3) (Nat.mod_lt _ (by decide))
    rw [show ((List.range len).map F)[i / 3]'(by rw [hl]; exact hk) = F (i / 3) by simp] at hsa
    rw [← hsa] at hcc
    have hsp : a.spot = none := by
      have h0 := hF 0 (by omega) 0 (by decide)
      rw [Nat.zero_mul, show a.add 0 = a from by unfold Addr.add; rw [if_pos rfl], show a.add 0 = a from by unfold Addr.add; rw [if_pos rfl]] at h0
      unfold World.cell? at h0
      split at h0
      · split at h0
        · cases h0
        · next h => simpa using h
      · cases h0
    obtain ⟨b, off, sp⟩ := a
    simp only at hsp
    subst hsp
    refine ⟨b, off, rfl, ?_⟩
    rw [Addr.add_lit, Addr.add_lit, show off + i / 3 * 3 + i % 3 = off + i by omega] at hcc
    exact hcc

set_option maxRecDepth 100000 in set_option maxHeartbeats 4000000 in
theorem open_span {W : World} {base : Nat} {v : Value} (h : Value.okWide Tryz.prog W .any base 35 v) : ∃ f t : Int, v = .agg #[.int .i64 f, .int .i64 t] := by
  obtain ⟨l, hl, rfl, _⟩ := open_flat (n := 2) (.inl ⟨_, Tryz.underlying35⟩) (by kernel_rfl) (by kernel_rfl) h
  match l, hl with
  | [f, t], _ => exact ⟨f, t, rfl⟩
end

section
open Go.ChangeShapes Go.WideShapes Go.ChangeAt Go.RowKit Go.Deep

set_option maxRecDepth 100000 in set_option maxHeartbeats 4000000 in
/-- A calendar in a cell. -/
theorem open_cal {H : Type} {enc : TypeId × Value → H} {W : World} {n : Nat} {cs : List Value} {x : DataW H × List MemPlace} (h : DataW.trod enc Tryz.prog W 0 (fun _ => true) true n 65 cs = some x) :
    ∃ (bas : Option Addr) (c : List Sl) (cap : Nat), cs = [.slice bas c.length cap] ∧ Rd W bas (slc c) ∧ c.length ≤ cap ∧ (bas = none → cap = 0) ∧ ∀ N : Nat, (∀ k ∈ x.1.weights Tryz.prog 65, k ≤ N) → c.length * 24 ≤ N := by
  rcases open_slice Tryz.underlying65 h with ⟨hcs, _⟩ | ⟨a, len, cap, m, n, D, Pl, hcs, hb, hle, hmax, hm, hx, hi⟩
  · exact ⟨none, [], 0, hcs, Rd.nil _ _, Nat.le_refl _, fun _ => rfl, fun N _ => Nat.zero_le _⟩
  · simp only [if_true] at hm
    have hc3 : Tryz.prog.cellsOf 68 = 3 := by kernel_rfl
    have hex : ∀ i, ∃ s : Sl, i < len → ∀ j, j < 3 → W.cell? ((a.add (i * 3)).add j) = s.cells[j]? := by
      intro i
      by_cases hlt : i < len
      · obtain ⟨cs', hcell, ht⟩ := hi i (by omega)
        obtain ⟨s, rfl⟩ := slot_cells ht
        rw [hc3] at hcell
        obtain ⟨_, _, hat⟩ := World.cells?_some hcell
        exact ⟨s, fun _ j hj => hat j hj⟩
      · exact ⟨⟨0, 0, 0⟩, fun h => absurd h hlt⟩
    obtain ⟨F, hF⟩ := Classical.skolem.1 hex
    have hl : ((List.range len).map F).length = len := by simp
    refine ⟨some a, (List.range len).map F, cap, by rw [hl]; exact hcs, ?_, by omega, fun h => (by cases h), fun N hN => ?_⟩
    · intro i u hu
      have hil : i < len * 3 := by have := (List.getElem?_eq_some_iff.1 hu).1; rw [slc_len, hl] at this; exact this
      have hk : i / 3 < len := by omega
      have hsa := slc_at (c := (List.range len).map F) (k := i / 3) (by rw [hl]; exact hk) (i % 3) (Nat.mod_lt _ (by decide))
      rw [show i / 3 * 3 + i % 3 = i by omega, hu] at hsa
      have hcc := hF (i / 3) hk (i % 3) (Nat.mod_lt _ (by decide))
      rw [show ((List.range len).map F)[i / 3]'(by rw [hl]; exact hk) = F (i / 3) by simp] at hsa
      rw [← hsa] at hcc
      have hsp : a.spot = none := by
        have h0 := hF 0 (by omega) 0 (by decide)
        rw [Nat.zero_mul, show a.add 0 = a from by unfold Addr.add; rw [if_pos rfl], show a.add 0 = a from by unfold Addr.add; rw [if_pos rfl]] at h0
        unfold World.cell? at h0
        split at h0
        · split at h0
          · cases h0
          · next h => simpa using h
        · cases h0
      obtain ⟨b, off, sp⟩ := a
      simp only at hsp
      subst hsp
      refine ⟨b, off, rfl, ?_⟩
      rw [Addr.add_lit, Addr.add_lit, show off + i / 3 * 3 + i % 3 = off + i by omega] at hcc
      exact hcc
    · rw [hl]
      have hb24 : Tryz.prog.bytesOf 68 = 24 := by kernel_rfl
      subst hx
      have := hN ((((List.range len).map D).length + ((List.range (m - len)).map fun j => D (len + j)).length) * Tryz.prog.bytesOf 68) (by simp only [DataW.weights, Tryz.underlying65]; exact List.mem_cons_self ..)
      rw [hb24, List.length_map, List.length_range] at this
      have h2 := Nat.mul_le_mul_right 24 (Nat.le_add_right len ((List.range (m - len)).map fun j => D (len + j)).length)
      omega
theorem weights_all {H : Type} {P : Program} {e : TypeId} {d : DataW H} {k : Nat} : ∀ {l : List (DataW H)}, d ∈ l → k ∈ d.weights P e → k ∈ DataW.weightsAll P e l
  | x :: l, hd, hk => by
    rw [DataW.weightsAll, List.mem_append]
    rcases List.mem_cons.1 hd with rfl | hd
    · exact .inl hk
    · exact .inr (weights_all hd hk)
set_option maxRecDepth 100000 in set_option maxHeartbeats 4000000 in
/-- A list of calendars in a cell. -/
theorem open_cals {H : Type} {enc : TypeId × Value → H} {W : World} {n : Nat} {cs : List Value} {x : DataW H × List MemPlace} (h : DataW.trod enc Tryz.prog W 0 (fun _ => true) true n 24 cs = some x) :
    ∃ (bas : Option Addr) (ns : List (List Sl)) (cap : Nat), cs = [.slice bas ns.length cap] ∧ CR W bas ns ∧ ∀ N : Nat, (∀ k ∈ x.1.weights Tryz.prog 24, k ≤ N) → ns.length * 24 ≤ N ∧ ∀ c ∈ ns, c.length * 24 ≤ N := by
  rcases open_slice1 Tryz.underlying24 (by kernel_rfl) h with ⟨hcs, _⟩ | ⟨a, len, cap, m, n, V, D, Pl, hcs, hb, hle, hmax, hm, hx, hi⟩
  · exact ⟨none, [], 0, hcs, ⟨[], Rd.nil _ _, fun i c h => by simp at h⟩, fun N _ => ⟨Nat.zero_le _, fun c hc => (by cases hc)⟩⟩
  · simp only [if_true] at hm
    have hex : ∀ i, ∃ c : List Sl, i < len → ∃ b cp, V i = .slice b c.length cp ∧ Rd W b (slc c) ∧ c.length ≤ cp ∧ (b = none → cp = 0) ∧ ∀ N : Nat, (∀ k ∈ (D i).weights Tryz.prog 65, k ≤ N) → c.length * 24 ≤ N := by
      intro i
      by_cases hlt : i < len
      · obtain ⟨hcell, ht⟩ := hi i (by omega)
        obtain ⟨b, c, cp, e, h1, h2, h3, h4⟩ := open_cal ht
        simp only [List.cons.injEq, and_true] at e
        exact ⟨c, fun _ => ⟨b, cp, e, h1, h2, h3, h4⟩⟩
      · exact ⟨[], fun h => absurd h hlt⟩
    obtain ⟨F, hF⟩ := Classical.skolem.1 hex
    have hl : ((List.range len).map F).length = len := by simp
    refine ⟨some a, (List.range len).map F, cap, by rw [hl]; exact hcs, ⟨(List.range len).map V, ?_, ?_⟩, fun N hN => ?_⟩
    · intro i u hu
      have hil : i < len := by have := (List.getElem?_eq_some_iff.1 hu).1; simpa using this
      have hcc := (hi i (by omega)).1
      have hu' : V i = u := by simpa [hil] using hu
      rw [hu'] at hcc
      have hsp : a.spot = none := by
        have h0 := (hi 0 (by omega)).1
        rw [show a.add 0 = a from by unfold Addr.add; rw [if_pos rfl]] at h0
        unfold World.cell? at h0
        split at h0
        · split at h0
          · cases h0
          · next h => simpa using h
        · cases h0
      obtain ⟨b, off, sp⟩ := a
      simp only at hsp
      subst hsp
      refine ⟨b, off, rfl, ?_⟩
      rw [Addr.add_lit] at hcc
      exact hcc
    · intro i c hc
      have hil : i < len := by have := (List.getElem?_eq_some_iff.1 hc).1; simpa using this
      have hc' : F i = c := by simpa [hil] using hc
      subst hc'
      obtain ⟨b, cp, e, h1, h2, h3, _⟩ := hF i hil
      exact ⟨b, cp, by simp [hil, e], h1, h2, h3⟩
    · subst hx
      have hb24 : Tryz.prog.bytesOf 65 = 24 := by kernel_rfl
      refine ⟨?_, fun c hc => ?_⟩
      · rw [hl]
        have := hN ((((List.range len).map D).length + ((List.range (m - len)).map fun j => D (len + j)).length) * Tryz.prog.bytesOf 65) (by simp only [DataW.weights, Tryz.underlying24]; exact List.mem_cons_self ..)
        rw [hb24, List.length_map, List.length_range] at this
        have h2 := Nat.mul_le_mul_right 24 (Nat.le_add_right len ((List.range (m - len)).map fun j => D (len + j)).length)
        omega
      · obtain ⟨i, hi1, rfl⟩ := List.mem_map.1 hc
        have hil : i < len := by simpa using hi1
        obtain ⟨b, cp, e, h1, h2, h3, h4⟩ := hF i hil
        refine h4 N fun k hk => hN k ?_
        simp only [DataW.weights, Tryz.underlying24]
        refine List.mem_cons_of_mem _ (List.mem_append.2 (.inl (weights_all (List.mem_map.2 ⟨i, hi1, rfl⟩) hk)))
set_option maxRecDepth 100000 in set_option maxHeartbeats 4000000 in
theorem dims_cells {H : Type} {enc : TypeId × Value → H} {W : World} {n : Nat} {cs : List Value} {x : DataW H × List MemPlace} (h : DataW.trod enc Tryz.prog W 0 (fun _ => true) true n 23 cs = some x) : ∃ d : V3, cs = [.int .i64 d.x, .int .i64 d.y, .int .i64 d.z] := by
  obtain ⟨xs, n', _, _, hlen, hxl, hf⟩ := DataW.trod_array Tryz.underlying23 h
  have hl : cs.length = 3 := hlen.trans (by kernel_rfl)
  have hc : Tryz.prog.cellsOf 3 = 1 := by kernel_rfl
  have h0 := hf 0 (by decide)
  have h1 := hf 1 (by decide)
  have h2 := hf 2 (by decide)
  match xs, hxl with
  | [y0, y1, y2], _ =>
    match cs, hl with
    | [a, b, c], _ =>
      simp [hc] at h0 h1 h2
      obtain ⟨p, e0, _⟩ := DataW.trod_int Tryz.underlying3 h0
      obtain ⟨q, e1, _⟩ := DataW.trod_int Tryz.underlying3 h1
      obtain ⟨r, e2, _⟩ := DataW.trod_int Tryz.underlying3 h2
      simp at e0 e1 e2
      exact ⟨⟨p, q, r⟩, by rw [e0, e1, e2]⟩
set_option maxRecDepth 100000 in set_option maxHeartbeats 4000000 in
/-- A machine's calendars that came in. -/
theorem open_yard {H : Type} {enc : TypeId × Value → H} {W : World} {base : Nat} {v : Value} {d : DataW H} {p : List MemPlace} (hv : Value.okWide Tryz.prog W .any base 26 v) (h : DataW.Trod enc Tryz.prog W 0 (fun _ => true) true 26 v d p) :
    ∃ (dm : V3) (bn bl : Option Addr) (ns ls : List (List Sl)) (cn cl : Nat), v = .agg #[.int .i64 dm.x, .int .i64 dm.y, .int .i64 dm.z, (.slice bn ns.length cn), (.slice bl ls.length cl)] ∧ CR W bn ns ∧ CR W bl ls ∧
      ∀ N : Nat, (∀ k ∈ d.weights Tryz.prog 26, k ≤ N) → (ns.length * 24 ≤ N ∧ ∀ c ∈ ns, c.length * 24 ≤ N) ∧ (ls.length * 24 ≤ N ∧ ∀ c ∈ ls, c.length * 24 ≤ N) := by
  have h' : ∃ cs : Array Value, v = .agg cs := by
    unfold Value.okWide at hv
    rw [Tryz.underlying26] at hv
    obtain ⟨cs, e, _⟩ := hv
    exact ⟨cs, e⟩
  obtain ⟨ca, rfl⟩ := h'
  obtain ⟨fuel, hf0⟩ := h
  obtain ⟨xs, n', _, hx, hlen, hxl, hf⟩ := DataW.trod_struct Tryz.underlying26 hf0
  have hl : (Value.cells (.agg ca)).toList.length = 5 := hlen.trans (by kernel_rfl)
  have hc1 : Tryz.prog.cellsOf 23 = 3 := by kernel_rfl
  have hc2 : Tryz.prog.cellsOf 24 = 1 := by kernel_rfl
  have h0 := hf 0 _ rfl
  have h1 := hf 1 _ rfl
  have h2 := hf 2 _ rfl
  simp only [Value.cells] at hl h0 h1 h2
  match xs, hxl with
  | [y0, y1, y2], _ =>
    obtain ⟨l, hca⟩ : ∃ l, ca = List.toArray l := ⟨ca.toList, by simp⟩
    subst hca
    match l, hl with
    | [a, b, c, e, g], _ =>
      simp [hc1, hc2] at h0 h1 h2
      obtain ⟨dm, e0⟩ := dims_cells h0
      obtain ⟨bn, ns, cn, e1, r1, s1⟩ := open_cals h1
      obtain ⟨bl, ls, cl, e2, r2, s2⟩ := open_cals h2
      simp at e0 e1 e2
      refine ⟨dm, bn, bl, ns, ls, cn, cl, by rw [e0.1, e0.2.1, e0.2.2, e1, e2], r1, r2, fun N hN => ?_⟩
      have hd : d = .agg [y0.1, y1.1, y2.1] := congrArg Prod.fst hx
      rw [hd] at hN
      simp only [DataW.weights, Tryz.underlying26] at hN
      exact ⟨s1 N (fun k hk => hN k (by simp [DataW.weightsEach]; exact .inr (.inl hk))), s2 N (fun k hk => hN k (by simp [DataW.weightsEach]; exact .inr (.inr hk)))⟩
end
end
end Go.Proofs.YtofoenlhbmammaaGreat
